/-
  Part 21 of the texts of one proof, made small by a program: see the last part for what is proved. No condition.
-/
import Derived.Test.YtimoefagohifaaaGreatDoorQ01
import Derived.Test.YtimoefagohifaaaGreatDoorQ09
import Derived.Test.YtimoefagohifaaaGreatDoorQ16
namespace Go.Proofs.YtimoefagohifaaaGreatDoor
open Go.RowKit Go.Sort
theorem blk_same (w : World) (o : Obj) (n : Nat) (h : n = w.heap.size) : (w.alloc o).heap[n]? = some o:=by subst h; show (w.heap.push _)[w.heap.size]? = _; simp
theorem blk_old {w : World} {o : Obj} {n : Nat} {x : Option Obj} (h : n < w.heap.size) (hx : w.heap[n]? = x) : (w.alloc o).heap[n]? = x:=by
 rw [← hx]; show (w.heap.push _)[n]? = _; rw [Array.getElem?_push,if_neg (by omega)]
theorem escB_len (c : UInt8) : (escB c).length≤3:=by unfold escB; split <;> simp
def escTo (s : ByteArray) (k : Nat) : List UInt8:=39 :: (s.data.toList.take k).flatMap escB
theorem escLen (s : ByteArray) (k : Nat) : (escTo s k).length≤3 * k + 1:=by
 have h : ∀ l : List UInt8,(l.flatMap escB).length≤3 * l.length:=by
  intro l
  induction l with
  | nil=>simp
  | cons c l ih=>have:=escB_len c; simp only [List.flatMap_cons,List.length_append,List.length_cons]; omega
 have:=h (s.data.toList.take k)
 have h2 : (s.data.toList.take k).length≤k:=List.length_take_le _ _
 simp only [escTo,List.length_cons]
 omega
theorem esc_snoc (s : ByteArray) (k : Nat) (h : k < s.size) : escTo s (k + 1) = escTo s k ++ escB s[k]:=by
 unfold escTo; rw [take_snoc s k h]; simp
theorem esc_all (s : ByteArray) : escTo s s.size ++ [39] = printText s:=by
 unfold escTo printText; rw [List.take_of_length_le (by simp)]; simp
theorem idx_digits (n : Nat) (h : n < 16) (w : World) : (Instr.index 9 (.string ⟨#[48,49,50,51,52,53,54,55,56,57,97,98,99,100,101,102]⟩) (.int .u8 (n : Int))).run Tryz.prog w = .ok (.int .u8 ((hexD n).toNat : Int)) w:=by
 obtain rfl | rfl | rfl | rfl | rfl | rfl | rfl | rfl | rfl | rfl | rfl | rfl | rfl | rfl | rfl | rfl:=lt16 n h
 all_goals kernel_rfl
theorem idx_div (c : Nat) (h : c < 256) (w : World) : (Instr.index 9 (.string ⟨#[48,49,50,51,52,53,54,55,56,57,97,98,99,100,101,102]⟩) (.int .u8 ((c : Int) / 16))).run Tryz.prog w = .ok (.int .u8 ((hexD (c / 16)).toNat : Int)) w:=by
 have e : (c : Int) / 16 = ((c / 16 : Nat) : Int):=by omega
 rw [e]; exact idx_digits _ (by omega) w
theorem idx_mod (c : Nat) (w : World) : (Instr.index 9 (.string ⟨#[48,49,50,51,52,53,54,55,56,57,97,98,99,100,101,102]⟩) (.int .u8 ((c : Int) % 16))).run Tryz.prog w = .ok (.int .u8 ((hexD (c % 16)).toNat : Int)) w:=by
 have e : (c : Int) % 16 = ((c % 16 : Nat) : Int):=by omega
 rw [e]; exact idx_digits _ (by omega) w
theorem and15 (c : Nat) (h : c < 256) : bits .and .u8 (c : Int) 15 = (c : Int) % 16:=by
 have:=u8_and_nat c 15 h (by decide)
 rw [show ((15 : Nat) : Int) = 15 from rfl] at this
 rw [this,show (15 : Nat) = 2 ^ 4 - 1 from rfl,Nat.and_two_pow_sub_one_eq_mod]
 omega
set_option maxRecDepth 100000 in
set_option maxHeartbeats 800000 in
theorem print_text (s : ByteArray) (n : Int) (w : World) (hs : s.size≤1000000) :
  Calls Tryz.prog 91 #[.agg #[.int .i64 2,.int .i64 n,.string s]] w fun e w'=>e = .returned (.string ⟨(printText s).toArray⟩)∧Below w.heap.size w w':=by
 go_enter Tryz.func91,Tryz.ntmps91
 go_wp2_with fail
 go_loopw [3,25] (fun o i wr=>∃ k : Nat,k≤s.size∧i = .int .i64 k∧OwnsBytes wr (w.heap.size + 1) o (escTo s k)∧Below (w.heap.size + 1) (w.alloc (Obj.cells #[.int .i64 2,.int .i64 n,.string s] 42)) wr) (fun _ i _=>s.size - (intOf i).toNat)
 case atStart=>exact ⟨0,by omega,rfl,⟨rfl,Or.inr ⟨w.heap.size + 1,1,#[.int .u8 39],rfl,Nat.le_refl _,by repeat (first | (refine blk_same _ _ _ ?_; focus (simp; done)) | (refine blk_old ?_ ?_; focus (first | omega | (simp; done) | (simp; omega)))),Nat.le_refl _,by simp [maxLen],rfl,rfl⟩⟩,(Below.refl _ _).alloc (by simp) _⟩
 case round=>
  obtain ⟨k,hk,rfl,hown,hb⟩:=hrel
  have HO:=Lib.hid hown
  have HB:=Lib.hid hb
  have x2 : wr.cell? ⟨w.heap.size,2,none⟩ = some (.string s):=hb.cell_some (by omega) (by go_cell)
  clear hown hb
  by_cases hlt : k < s.size
  ·have hpl:=fun w=>plain_any (s[k].toNat : Int) w
   have HP:=Lib.hid hpl
   clear hpl
   cases hp : plainB (s[k].toNat : Int)
   ·rw [hp] at HP
    go_wp2_with fail
    refine (HP.out _).mono ?_
    rintro e w' ⟨rfl,rfl⟩
    go_wp2_with fail
    have hb256 : s[k].toNat < 256:=s[k].toNat_lt
    have i1:=fun w=>idx_div s[k].toNat hb256 w
    have i2:=fun w=>idx_mod s[k].toNat w
    have a1:=and15 s[k].toNat hb256
    refine wp_region_mixed 8 [(0,false),(1,false),(2,false),(3,false),(4,false),(5,false),(6,false),(7,true)] (by kernel_rfl) (by kernel_rfl) ?_
    repeat (refine wpM_mild rfl (fun K hK=>?_); go_simp; first | (refine hK _ ?_; clear hK K) | (apply Exists.intro; refine ⟨fun _=>?_,hK _ ?_⟩; (fail); clear hK K))
    clear i1 i2 a1
    refine wpM_eff rfl ?_
    intro w1 hb1 _
    go_wp2_with fail
    refine ⟨hb1.alloc hb1.size _,wpM_tail ?_⟩
    intro w2 hb2 _
    have hblk:=hb2.blk_kept (blk_new w1 _)
    have hown2 : OwnsBytes w2 (w.heap.size + 1) u3 (escTo s k):=OwnsBytes.kept HO.out ((hb1.alloc hb1.size _).step hb2)
    have HO2:=Lib.hid hown2
    have HK:=Lib.hid hblk
    have HB2 : Hid (Below (w.heap.size + 1) (w.alloc (Obj.cells #[.int .i64 2,.int .i64 n,.string s] 42)) w2):=HB.out.trans (((hb1.alloc hb1.size _).step hb2).mono (by have:=HB.out.size; simp at this; omega))
    have hlen:=escLen s k
    clear hb1 hb2 hblk hown2
    simp only [List.drop_succ_cons,List.drop_zero]
    go_wp2_with (at_builtin; go_must (refine wpList_append_blk rfl _ _ 58 rfl 5 (.int .u8 0) 1 Tryz.underlying58 info5 rfl (w.heap.size + 1) u3 _ _ rfl HO2.out #[.int .u8 92,.int .u8 ((hexD (s[k].toNat / 16)).toNat : Int),.int .u8 ((hexD (s[k].toNat % 16)).toNat : Int)] w1.heap.size 5 (0,0) rfl HK.out (by simp [Value.oneCell']) (by simp; omega) (by simp [maxLen]; omega) (by have:=HB2.out.size; simp at this; omega) ?_))
    intro v3 w3 hown3 hg3
    have HO3:=Lib.hid hown3
    have HB3 : Hid (Below (w.heap.size + 1) (w.alloc (Obj.cells #[.int .i64 2,.int .i64 n,.string s] 42)) w3):=Below.grown HB2.out hg3 (by have:=HB2.out.size; simp at this; omega) (fun k hk=>(World.ownsRow.lt HO2.out k hk).1)
    clear hown3 hg3
    go_wp2_with fail
    go_roundw
    case rel=>exact ⟨k + 1,by omega,by go_num,OwnsBytes.of HO3.out (by rw [esc_snoc s k hlt,escB,hp,bytesV_append]; rfl),HB3.out⟩
    case measure=>simp [intOf]; omega
   ·rw [hp] at HP
    go_wp2_with fail
    refine (HP.out _).mono ?_
    rintro e w' ⟨rfl,rfl⟩
    have hlen:=escLen s k
    go_wp2_with (at_builtin; go_must (refine wpList_append_new rfl _ _ 58 rfl 5 (.int .u8 0) 1 Tryz.underlying58 info5 rfl (w.heap.size + 1) u3 _ _ rfl HO.out #[.int .u8 (s[k].toNat : Int)] wr.heap.size rfl rfl (by simp [Value.oneCell']) (by simp; omega) (by simp [maxLen]; omega) (by have:=HB.out.size; simp at this; omega) ?_))
    intro v3 w3 hown3 hg3
    have HO3:=Lib.hid hown3
    have HB3 : Hid (Below (w.heap.size + 1) (w.alloc (Obj.cells #[.int .i64 2,.int .i64 n,.string s] 42)) w3):=Below.grown HB.out hg3 (by have:=HB.out.size; simp at this; omega) (fun k hk=>(World.ownsRow.lt HO.out k hk).1)
    clear hown3 hg3
    go_wp2_with fail
    go_roundw
    case rel=>exact ⟨k + 1,by omega,by go_num,OwnsBytes.of HO3.out (by rw [esc_snoc s k hlt,escB,hp,bytesV_append]; rfl),HB3.out⟩
    case measure=>simp [intOf]; omega
  ·obtain rfl : k = s.size:=by omega
   have hlen:=escLen s s.size
   go_wp2_with (at_builtin; go_must (refine wpList_append_new rfl _ _ 58 rfl 5 (.int .u8 0) 1 Tryz.underlying58 info5 rfl (w.heap.size + 1) u3 _ _ rfl HO.out #[.int .u8 39] wr.heap.size rfl rfl (by simp [Value.oneCell']) (by simp; omega) (by simp [maxLen]; omega) (by have:=HB.out.size; simp at this; omega) ?_))
   intro v3 w3 hown3 hg3
   have ho3 : OwnsBytes w3 (w.heap.size + 1) v3 (printText s):=OwnsBytes.of hown3 (by rw [← esc_all,bytesV_append]; rfl)
   have HB3 : Hid (Below (w.heap.size + 1) (w.alloc (Obj.cells #[.int .i64 2,.int .i64 n,.string s] 42)) w3):=Below.grown HB.out hg3 (by have:=HB.out.size; simp at this; omega) (fun k hk=>(World.ownsRow.lt HO.out k hk).1)
   obtain ⟨g,cap,rfl,hconv⟩:=ho3.string (by simp [printText])
   clear hown3 hg3 ho3
   go_wp2_with fail
   go_returns
   exact ⟨rfl,((Below.refl _ w).alloc (Nat.le_refl _) _).trans (HB3.out.mono (by omega))⟩
set_option maxRecDepth 100000 in
theorem print_any (v : V) (hr : v.right = true) (w : World) (htab : Lib.TabIs Tryz.prog w "internal/strconv.uint64pow10" .u64 Lib.pow10Tab) :
  Calls Tryz.prog 91 #[v.val] w fun e w'=>e = .returned (.string ⟨v.print.toArray⟩)∧Below w.heap.size w w':=by
 obtain ⟨k,n,s⟩:=v
 have hk : k = 0∨k = 1∨k = 2∨k = 3:=by
  unfold V.right at hr; simp only at hr
  repeat' split at hr
  all_goals first | omega | (cases hr)
 unfold V.val
 obtain rfl | rfl | rfl | rfl:=hk
 ·clear hr
  have HT:=Lib.hid htab
  clear htab
  go_enter Tryz.func91,Tryz.ntmps91
  go_wp2
  go_returns
  exact ⟨rfl,by go_grown⟩
 ·have hn : -1000000000000000≤n∧n≤1000000000000000:=by simp [V.right] at hr; omega
  clear hr
  have HT:=Lib.hid (Lib.tabBelow_of_tabIs htab)
  clear htab
  have C:=Lib.hid (fun w h=>Tryz.strconv_Itoa n (by omega) (by omega) w h)
  go_enter Tryz.func91,Tryz.ntmps91
  go_wp2_with fail
  refine (C.out _ (HT.out _ (by go_grown))).mono ?_
  rintro e w1 ⟨rfl,d,os,hw1⟩
  have HB1 : Hid (Below (w.heap.size + 1) (w.alloc (Obj.cells #[.int .i64 1,.int .i64 n,.string s] 42)) w1):=by
   show Below _ _ _
   rw [hw1]; exact Lib.below_grow _ _ (by simp) _ _
  clear hw1
  go_wp2_with fail
  go_returns
  exact ⟨rfl,((Below.refl _ w).alloc (Nat.le_refl _) _).trans (HB1.out.mono (by simp))⟩
 ·have hn : s.size≤40:=by simp [V.right] at hr; omega
  exact print_text s n w (by omega)
 ·clear hr htab
  have C:=Lib.hid Tryz.strconv_FormatBool
  cases h1 : (n == 1)
  all_goals
   have H1:=Lib.hid h1
   go_enter Tryz.func91,Tryz.ntmps91
   go_wp2_with fail
   refine (C.out _ _).mono ?_
   rintro e w1 ⟨rfl,rfl⟩
   go_wp2_with fail
   go_returns
   refine ⟨?_,by go_grown⟩
   simp [V.print,H1.out]
end Go.Proofs.YtimoefagohifaaaGreatDoor
namespace Go.Proofs.YtimoefagohifaaaGreatDoor
theorem takeW_split {α : Type} (p q : α→Bool) (h : ∀ a,q a = true→p a = true) : ∀ l : List α,l.takeWhile p = l.takeWhile q ++ (l.drop (l.takeWhile q).length).takeWhile p
 | []=>rfl
 | a :: l=>by
  cases hq : q a with
  | true=>
   have ih:=takeW_split p q h l
   simp only [List.takeWhile_cons,hq,h a hq,if_true,List.length_cons,List.drop_succ_cons,List.cons_append]
   exact congrArg (a :: ·) ih
  | false=>simp [List.takeWhile_cons,hq]
theorem takeW_all {α : Type} (q : α→Bool) : ∀ l : List α,∀ a ∈ l.takeWhile q,q a = true
 | [],a,h=>by cases h
 | b :: l,a,h=>by
  rw [List.takeWhile_cons] at h
  split at h
  ·rename_i hb
   rcases List.mem_cons.1 h with rfl | h
   ·exact hb
   ·exact takeW_all q l a h
  ·cases h
theorem takeW_rest {α : Type} (q : α→Bool) : ∀ l : List α,∀ a r,l.drop (l.takeWhile q).length = a :: r→q a = false
 | [],a,r,h=>by simp at h
 | b :: l,a,r,h=>by
  cases hb : q b with
  | true=>
   simp only [List.takeWhile_cons,hb,if_true,List.length_cons,List.drop_succ_cons] at h
   exact takeW_rest q l a r h
  | false=>
   simp only [List.takeWhile_cons,hb,Bool.false_eq_true,if_false,List.length_nil,List.drop_zero] at h
   cases h
   exact hb
def numFold : List UInt8→Int × Bool→Int × Bool
 | [],p=>p
 | c :: l,p=>numFold l (if 549755813888 < p.1 * 10 + ((c.toNat : Int) - 48) then (0,false) else (p.1 * 10 + ((c.toNat : Int) - 48),p.2))
def digFold (l : List UInt8) (n : Nat) : Nat:=l.foldl (fun a c=>a * 10 + (c.toNat - 48)) n
theorem numFold_snoc (c : UInt8) : ∀ (l : List UInt8) (p : Int × Bool),numFold (l ++ [c]) p = numFold [c] (numFold l p)
 | [],p=>rfl
 | d :: l,p=>by rw [List.cons_append]; exact numFold_snoc c l _
theorem numFold_bad : ∀ (l : List UInt8) (n : Int),(numFold l (n,false)).2 = false
 | [],n=>rfl
 | c :: l,n=>by
  rw [numFold]
  split
  ·exact numFold_bad l 0
  ·exact numFold_bad l _
theorem numFold_bound : ∀ (l : List UInt8) (n : Int) (b : Bool),(∀ c ∈ l,digB' c = true)→0≤n→n≤549755813888→0≤(numFold l (n,b)).1∧(numFold l (n,b)).1≤549755813888
 | [],n,b,_,h0,h1=>⟨h0,h1⟩
 | c :: l,n,b,h,h0,h1=>by
  have hc:=h c (by simp)
  have hl : ∀ d ∈ l,digB' d = true:=fun d hd=>h d (by simp [hd])
  unfold digB' at hc
  simp only [Bool.and_eq_true,decide_eq_true_eq] at hc
  rw [numFold]
  split
  ·exact numFold_bound l 0 false hl (by omega) (by omega)
  ·rename_i hn
   exact numFold_bound l _ b hl (by dsimp only at hn ⊢; omega) (by dsimp only at hn ⊢; omega)
theorem digFold_le : ∀ (l : List UInt8) (n : Nat),n≤digFold l n
 | [],n=>Nat.le_refl n
 | c :: l,n=>Nat.le_trans (by omega) (digFold_le l (n * 10 + (c.toNat - 48)))
theorem numFold_spec : ∀ (l : List UInt8) (n : Nat),(∀ c ∈ l,digB' c = true)→numFold l ((n : Int),true) = (((digFold l n : Nat) : Int),true)∧(digFold l n≤549755813888∨l = [])∨(numFold l ((n : Int),true)).2 = false∧549755813888 < digFold l n
 | [],n,_=>.inl ⟨rfl,.inr rfl⟩
 | c :: l,n,h=>by
  have hc:=h c (by simp)
  have hl : ∀ d ∈ l,digB' d = true:=fun d hd=>h d (by simp [hd])
  unfold digB' at hc
  simp only [Bool.and_eq_true,decide_eq_true_eq] at hc
  have e : (n : Int) * 10 + ((c.toNat : Int) - 48) = ((n * 10 + (c.toNat - 48) : Nat) : Int):=by omega
  have hge:=digFold_le l (n * 10 + (c.toNat - 48))
  have hd : digFold (c :: l) n = digFold l (n * 10 + (c.toNat - 48)):=rfl
  rw [numFold]
  dsimp only
  rw [e]
  split
  ·rename_i hn
   refine .inr ⟨numFold_bad l 0,?_⟩
   rw [hd]; omega
  ·rename_i hn
   rcases numFold_spec l (n * 10 + (c.toNat - 48)) hl with ⟨h1,h2⟩ | h1
   ·refine .inl ⟨by rw [h1,hd],.inl ?_⟩
    rw [hd]
    rcases h2 with h2 | rfl
    ·exact h2
    ·show n * 10 + (c.toNat - 48)≤_; omega
   ·exact .inr ⟨h1.1,by rw [hd]; exact h1.2⟩
theorem digFold_snoc (l : List UInt8) (c : UInt8) (n : Nat) : digFold (l ++ [c]) n = digFold l n * 10 + (c.toNat - 48):=by
 unfold digFold; rw [List.foldl_append]; rfl
theorem digFold_dec (m : Nat) : digFold (Lib.decDigits m) 0 = m:=by
 induction m using Nat.strongRecOn with
 | _ m ih=>
  rw [Lib.decDigits]
  split
  ·rename_i h
   show 0 * 10 + ((UInt8.ofNat (48 + m)).toNat - 48) = m
   rw [digB m h]; omega
  ·rename_i h
   rw [digFold_snoc,ih (m / 10) (by omega),digB (m % 10) (by omega)]
   omega
theorem dec_digFold : ∀ (k : Nat) (l : List UInt8),l.length = k→l ≠ []→(∀ c ∈ l,digB' c = true)→(l.head? = some 48→l.length = 1)→Lib.decDigits (digFold l 0) = l:=by
 intro k
 induction k with
 | zero=>intro l h hn; exact absurd (List.eq_nil_of_length_eq_zero h) hn
 | succ k ih=>
  intro l hl hn hd h0
  obtain ⟨a,c,rfl⟩ : ∃ a c,l = a ++ [c]:=⟨l.dropLast,l.getLast hn,(List.dropLast_concat_getLast hn).symm⟩
  have hc:=hd c (by simp)
  unfold digB' at hc
  simp only [Bool.and_eq_true,decide_eq_true_eq] at hc
  have hcb : UInt8.ofNat (48 + (c.toNat - 48)) = c:=by
   rw [show 48 + (c.toNat - 48) = c.toNat by omega]; simp
  rw [digFold_snoc]
  cases a with
  | nil=>
   show Lib.decDigits (0 * 10 + (c.toNat - 48)) = _
   rw [Nat.zero_mul,Nat.zero_add,Lib.decDigits,dif_pos (by omega),hcb]; rfl
  | cons d a=>
   have h48 : d ≠ 48:=fun e=>by have:=h0 (by rw [e]; rfl); simp at this
   have hdd:=hd d (by simp)
   unfold digB' at hdd
   simp only [Bool.and_eq_true,decide_eq_true_eq] at hdd
   have hne : d.toNat ≠ 48:=fun e=>h48 (by rw [← UInt8.toNat_inj]; exact e)
   have h1:=ih (d :: a) (by simpa using hl) (by simp) (fun x hx=>hd x (by simp only [List.mem_append]; exact .inl hx)) (fun e=>absurd (by simpa using e) h48)
   have hpos : 1≤digFold (d :: a) 0:=by
    have:=digFold_le a (0 * 10 + (d.toNat - 48))
    have e : digFold (d :: a) 0 = digFold a (0 * 10 + (d.toNat - 48)):=rfl
    omega
   rw [Lib.decDigits,dif_neg (by omega),show (digFold (d :: a) 0 * 10 + (c.toNat - 48)) / 10 = digFold (d :: a) 0 by omega,show (digFold (d :: a) 0 * 10 + (c.toNat - 48)) % 10 = c.toNat - 48 by omega,h1,hcb]
theorem dec_zero (m : Nat) (h : (Lib.decDigits m).head? = some 48) : (Lib.decDigits m).length = 1:=by
 induction m using Nat.strongRecOn with
 | _ m ih=>
  rw [Lib.decDigits] at h ⊢
  split
  ·rfl
  ·rename_i hm
   rw [dif_neg hm] at h
   have hne:=decDigits_ne (m / 10)
   have h1 : (Lib.decDigits (m / 10)).head? = some 48:=by
    cases hx : Lib.decDigits (m / 10) with
    | nil=>exact absurd hx hne
    | cons a r=>rw [hx] at h; exact h
   have h2:=ih (m / 10) (by omega) h1
   exfalso
   have h3 : digFold (Lib.decDigits (m / 10)) 0 = 0:=by
    obtain ⟨a,ha⟩ : ∃ a,Lib.decDigits (m / 10) = [a]:=List.length_eq_one_iff.1 h2
    rw [ha] at h1 ⊢
    have : a = 48:=by simpa using h1
    subst this; rfl
   rw [digFold_dec] at h3
   omega
def refNum (s : Bytes) : Except Int (Tok × Nat):=
 let ds:=s.takeWhile digB'
 let p:=numFold ds (0,true)
 let joined : Bool:=match s.drop ds.length with | []=>false | d :: _=>lowB d || d == 95
 if !p.2 || joined || (s.head? == some 48 && decide (1 < ds.length)) then .error 381 else .ok (⟨3,0,[],p.1⟩,ds.length)
theorem dig_acc (a : UInt8) (h : digB' a = true) : accP a = true:=by unfold accP; rw [h]; simp
theorem tokenR_num (c : UInt8) (r : Bytes) (hl : lowB c = false) (hd : digB' c = true) : tokenR (c :: r) = refNum (c :: r):=by
 have hw:=takeW_split accP digB' dig_acc (c :: r)
 have hds:=takeW_all digB' (c :: r)
 have hrest:=takeW_rest digB' (c :: r)
 have hdc : (c :: r).takeWhile digB' = c :: r.takeWhile digB':=by rw [List.takeWhile_cons,if_pos hd]
 have hc:=hd
 unfold digB' at hc
 simp only [Bool.and_eq_true,decide_eq_true_eq] at hc
 have key : ∀ n : Int,Lib.itoa n = (c :: r).takeWhile accP→0≤n∧(∀ d ∈ (c :: r).takeWhile accP,digB' d = true)∧Lib.itoa n = Lib.decDigits n.toNat:=by
  intro n hn
  have hac : (c :: r).takeWhile accP = c :: r.takeWhile accP:=by rw [List.takeWhile_cons,if_pos (dig_acc c hd)]
  by_cases h0 : n < 0
  ·unfold Lib.itoa at hn
   rw [if_pos h0,hac] at hn
   have:=(List.cons.inj hn).1
   subst this
   exact absurd hc (by decide)
  ·have e : Lib.itoa n = Lib.decDigits n.toNat:=by unfold Lib.itoa; rw [if_neg h0]
   refine ⟨by omega,fun d hdd=>?_,e⟩
   rw [← hn,e] at hdd
   have:=decDigits_all _ d hdd
   unfold digB'; simp [this.1,this.2]
 have hbad : (∀ n : Int,Lib.atoiAll ((c :: r).takeWhile accP) = .ok n→¬ 549755813888 < n→Lib.itoa n ≠ (c :: r).takeWhile accP)→tokenR (c :: r) = .error 381:=by
  intro h
  unfold tokenR
  simp only [hl,hd,Bool.false_eq_true,if_false,if_true]
  split
  ·rename_i n hn
   split
   ·rfl
   ·rename_i hx
    exact absurd (Classical.not_not.1 (fun e=>hx (.inr e))) (h n hn (fun e=>hx (.inl e)))
  ·rfl
 unfold refNum
 dsimp only
 generalize hj : (match (c :: r).drop ((c :: r).takeWhile digB').length with | []=>false | d :: _=>lowB d || d == 95 : Bool) = joined
 cases joined with
 | true=>
  rw [Bool.or_true,Bool.true_or,if_pos rfl]
  refine hbad fun n _ _ hn=>?_
  obtain ⟨_,hall,_⟩:=key n hn
  cases hr : (c :: r).drop ((c :: r).takeWhile digB').length with
  | nil=>rw [hr] at hj; cases hj
  | cons d q=>
   rw [hr] at hj hw
   have hj' : (lowB d || d == 95) = true:=hj
   have hdig:=hrest d q hr
   have hacc : accP d = true:=by
    unfold accP
    rcases Bool.or_eq_true _ _ ▸ hj' with h | h
    ·rw [h]; rfl
    ·rw [h]; simp
   have hw2 : (d :: q).takeWhile accP = d :: q.takeWhile accP:=by rw [List.takeWhile_cons,if_pos hacc]
   rw [hw2] at hw
   have:=hall d (by rw [hw]; simp)
   rw [this] at hdig; cases hdig
 | false=>
  have hwd : (c :: r).takeWhile accP = (c :: r).takeWhile digB':=by
   rw [hw]
   cases hr : (c :: r).drop ((c :: r).takeWhile digB').length with
   | nil=>simp
   | cons d q=>
    rw [hr] at hj
    have hj' : (lowB d || d == 95) = false:=hj
    have hdig:=hrest d q hr
    simp only [Bool.or_eq_false_iff] at hj'
    have hw2 : (d :: q).takeWhile accP = []:=by rw [List.takeWhile_cons,if_neg (by unfold accP; rw [hj'.1,hj'.2,hdig]; decide)]
    rw [hw2,List.append_nil]
  rw [Bool.or_false]
  rw [hwd] at hbad key
  generalize hds0 : (c :: r).takeWhile digB' = ds at *
  have hh : ds.head? = some c:=by rw [hdc]; rfl
  have hne : ds ≠ []:=by rw [hdc]; simp
  rw [List.head?_cons]
  rcases numFold_spec ds 0 hds with ⟨h1,h2⟩ | ⟨h1,h2⟩
  ·have h1' : numFold ds (0,true) = (((digFold ds 0 : Nat) : Int),true):=h1
   have h2' : digFold ds 0≤549755813888:=h2.resolve_right hne
   rw [h1']
   dsimp only
   rw [Bool.not_true,Bool.false_or]
   by_cases hz : ((some c == some (48 : UInt8)) && decide (1 < ds.length)) = true
   ·rw [if_pos hz]
    simp only [Bool.and_eq_true,beq_iff_eq,Option.some.injEq,decide_eq_true_eq] at hz
    refine hbad fun n _ _ hn=>?_
    obtain ⟨_,_,e⟩:=key n hn
    have:=dec_zero n.toNat (by rw [← e,hn,hh,hz.1])
    rw [← e,hn] at this
    omega
   ·rw [if_neg hz]
    have hdec:=dec_digFold _ ds rfl hne hds (fun e=>by
     rw [hh] at e
     simp only [Bool.and_eq_true,beq_iff_eq,decide_eq_true_eq,not_and] at hz
     have:=hz e
     have : ds.length ≠ 0:=fun h=>hne (List.eq_nil_of_length_eq_zero h)
     omega)
    have hit : Lib.itoa ((digFold ds 0 : Nat) : Int) = ds:=by
     unfold Lib.itoa
     rw [if_neg (by omega),Int.toNat_natCast,hdec]
    have hat:=atoiAll_itoa ((digFold ds 0 : Nat) : Int) (by omega) (by omega)
    rw [hit] at hat
    unfold tokenR
    simp only [hl,hd,Bool.false_eq_true,if_false,if_true,hwd,hat]
    rw [if_neg (by rw [hit]; simp; omega)]
  ·have h1' : (numFold ds (0,true)).2 = false:=h1
   rw [h1',Bool.not_false,Bool.true_or,if_pos rfl]
   refine hbad fun n _ hlt hn=>?_
   obtain ⟨h0,_,e⟩:=key n hn
   have:=digFold_dec n.toNat
   rw [← e,hn] at this
   omega
def refWord (s : Bytes) : Except Int (Tok × Nat):=
 let w:=s.takeWhile accP
 if keywords.contains w then .ok (⟨1,0,w,0⟩,w.length) else if 16 < w.length then .error 2 else .ok (⟨2,0,w,0⟩,w.length)
theorem tokenR_wordR (c : UInt8) (r : Bytes) (hl : lowB c = true) : tokenR (c :: r) = refWord (c :: r):=by
 have hac : accP c = true:=by unfold accP; rw [hl]; rfl
 have hall:=takeW_all accP (c :: r)
 have hw : (c :: r).takeWhile accP = c :: r.takeWhile accP:=by rw [List.takeWhile_cons,if_pos hac]
 unfold tokenR refWord
 simp only [hl,if_true]
 split
 ·rfl
 ·rename_i hk
  have hn : isName ((c :: r).takeWhile accP) = decide (((c :: r).takeWhile accP).length≤16):=by
   unfold isName
   rw [hw] at hall hk ⊢
   dsimp only
   rw [show keywords.contains (c :: r.takeWhile accP) = false from Bool.eq_false_iff.2 hk,hl,List.all_eq_true.2 hall]
   simp
  rw [hn]
  by_cases h16 : ((c :: r).takeWhile accP).length≤16
  ·rw [if_pos (by simpa using h16),if_neg (by omega)]
  ·rw [if_neg (by simpa using h16),if_pos (by omega)]
theorem toQuote_run : ∀ r : Bytes,toQuote r = if (r.takeWhile (· != 39)).length = r.length then none else some (r.takeWhile (· != 39))
 | []=>rfl
 | c :: r=>by
  by_cases hc : c = 39
  ·subst hc; rfl
  ·have hb : (c != 39) = true:=by simpa using hc
   rw [toQuote,if_neg hc,toQuote_run r,List.takeWhile_cons,if_pos hb,List.length_cons,List.length_cons]
   by_cases h : (r.takeWhile (· != 39)).length = r.length
   ·rw [if_pos h,if_pos (by omega)]; rfl
   ·rw [if_neg h,if_neg (by omega)]; rfl
def oneSigns : Bytes:=[40,41,44,46,61,60,62,43,45,42]
def refSign (s : Bytes) : Except Int (Tok × Nat):=
 if 2≤s.length∧(s.take 2 = [60,62]∨s.take 2 = [60,61]∨s.take 2 = [62,61]) then .ok (⟨5,0,s.take 2,0⟩,2)
 else match s with
  | []=>.error 380
  | c :: _=>if oneSigns.contains c then .ok (⟨5,0,[c],0⟩,1) else .error 380
theorem nb {a c : UInt8} (h : ¬ c = a) : (a == c) = false:=by rw [beq_eq_false_iff_ne]; exact fun e=>h e.symm
theorem refSign_one (c d : UInt8) (q : Bytes) (h60 : ¬ c = 60) (h62 : ¬ c = 62) : refSign (c :: d :: q) = if oneSigns.contains c then .ok (⟨5,0,[c],0⟩,1) else .error 380:=by
 unfold refSign
 rw [if_neg (by simp [h60,h62])]
theorem signOf_ref (c : UInt8) (r : Bytes) : (match signOf (c :: r) with | some g=>.ok (⟨5,0,g,0⟩,g.length) | none=>.error 380 : Except Int (Tok × Nat)) = refSign (c :: r):=by
 unfold signOf signs
 cases r with
 | nil=>
  unfold refSign oneSigns
  simp only [List.find?_cons,List.isPrefixOf,List.length_cons,List.length_nil,Bool.and_false,Bool.and_true]
  rw [if_neg (by omega)]
  by_cases h1 : c ∈ ([40,41,44,46,61,60,62,43,45,42] : Bytes)
  ·simp only [List.mem_cons,List.not_mem_nil,or_false] at h1
   rcases h1 with rfl | rfl | rfl | rfl | rfl | rfl | rfl | rfl | rfl | rfl <;> rfl
  ·have h2:=h1
   simp only [List.mem_cons,List.not_mem_nil,or_false,not_or] at h2
   obtain ⟨a1,a2,a3,a4,a5,a6,a7,a8,a9,a10⟩:=h2
   rw [if_neg (by simpa using h1)]
   simp only [nb a1,nb a2,nb a3,nb a4,nb a5,nb a6,nb a7,nb a8,nb a9,nb a10] <;> rfl
 | cons d q=>
  by_cases h60 : c = 60
  ·subst h60
   unfold refSign oneSigns
   simp only [List.find?_cons,List.isPrefixOf,List.length_cons,Bool.and_true,List.take_succ_cons,List.take_zero]
   by_cases e1 : d = 62
   ·subst e1; simp
   ·by_cases e2 : d = 61
    ·subst e2; simp
    ·simp [e1,e2,nb e1,nb e2]
  ·by_cases h62 : c = 62
   ·subst h62
    unfold refSign oneSigns
    simp only [List.find?_cons,List.isPrefixOf,List.length_cons,Bool.and_true,List.take_succ_cons,List.take_zero]
    by_cases e2 : d = 61
    ·subst e2; simp
    ·simp [e2,nb e2]
   ·rw [refSign_one c d q h60 h62]
    unfold oneSigns
    simp only [List.find?_cons,List.isPrefixOf,Bool.and_true]
    by_cases h1 : c ∈ ([40,41,44,46,61,60,62,43,45,42] : Bytes)
    ·simp only [List.mem_cons,List.not_mem_nil,or_false] at h1
     rcases h1 with rfl | rfl | rfl | rfl | rfl | rfl | rfl | rfl | rfl | rfl <;> first | rfl | (simp; done) | exact absurd rfl h60 | exact absurd rfl h62
    ·have h2:=h1
     simp only [List.mem_cons,List.not_mem_nil,or_false,not_or] at h2
     obtain ⟨a1,a2,a3,a4,a5,a6,a7,a8,a9,a10⟩:=h2
     rw [if_neg (by simpa using h1)]
     simp only [nb a1,nb a2,nb a3,nb a4,nb a5,nb a6,nb a7,nb a8,nb a9,nb a10,Bool.false_and] <;> rfl
end Go.Proofs.YtimoefagohifaaaGreatDoor
namespace Go.Proofs.YtimoefagohifaaaGreatDoor
open Go.RowKit Go.Sort
theorem rlower_any (c : UInt8) (w : World) : Calls Tryz.prog 82 #[.int .u8 (c.toNat : Int)] w fun e w'=>e = .returned (.bool (lowB c))∧w = w':=by
 unfold lowB
 go_enter Tryz.func82,Tryz.ntmps82
 go_wp2_with fail
 all_goals go_returns
 all_goals refine ⟨ret_bool ?_,rfl⟩
 all_goals (rw [Bool.eq_iff_iff]; simp; try omega)
theorem rdig_any (c : UInt8) (w : World) : Calls Tryz.prog 84 #[.int .u8 (c.toNat : Int)] w fun e w'=>e = .returned (.bool (digB' c))∧w = w':=by
 unfold digB'
 go_enter Tryz.func84,Tryz.ntmps84
 go_wp2_with fail
 all_goals go_returns
 all_goals refine ⟨ret_bool ?_,rfl⟩
 all_goals (rw [Bool.eq_iff_iff]; simp; try omega)
def kwCells : Array Value:=(keywords.map fun g=>Value.string ⟨g.toArray⟩).toArray
theorem kw_len : keywords.length = 51:=rfl
theorem kwCells_at (k : Nat) (g : Bytes) (h : keywords[k]? = some g) : kwCells[k]? = some (.string ⟨g.toArray⟩):=by
 unfold kwCells
 simp [h]
set_option maxRecDepth 100000 in
set_option maxHeartbeats 4000000 in
theorem rReserved_any (w : World) : Calls Tryz.prog 219 #[] w fun e w'=>e = .returned (.slice (some ⟨w.heap.size,0,none⟩) 51 51)∧St w w' [(w.heap.size,kwCells,9)]:=by
 have S0:=Lib.hid (St.start w)
 have S1 : Hid (St w (w.alloc (.cells kwCells 9)) [(w.heap.size,kwCells,9)]):=St.alloc S0.out
 go_enter Tryz.func219,Tryz.ntmps219
 go_wp2_with fail
 go_returns
 exact ⟨rfl,S1.out⟩
theorem contains_step (s g : Bytes) (k : Nat) (h : keywords[k]? = some g) : (keywords.drop k).contains s = (s == g || (keywords.drop (k + 1)).contains s):=by
 obtain ⟨h1,rfl⟩:=List.getElem?_eq_some_iff.1 h
 rw [List.drop_eq_getElem_cons h1,List.contains_cons]
set_option maxRecDepth 100000 in
set_option maxHeartbeats 4000000 in
theorem rreserved_any (s : Bytes) (w : World) : Calls Tryz.prog 157 #[.string ⟨s.toArray⟩] w fun e w'=>e = .returned (.bool (keywords.contains s))∧Below w.heap.size w w':=by
 go_enter Tryz.func157,Tryz.ntmps157
 go_wp2_with fail
 refine Calls.mono (rReserved_any w) ?_
 rintro e w1 ⟨rfl,hS⟩
 have S1:=Lib.hid hS
 clear hS
 go_wp2_with fail
 go_loopw [4] (fun i wr=>wr = w1∧∃ k : Nat,k≤51∧i = .int .i64 k∧Hid (keywords.contains s = (keywords.drop k).contains s)) (fun i _=>51 - (intOf i).toNat)
 case atStart=>exact ⟨rfl,0,by omega,rfl,rfl⟩
 case round=>
  obtain ⟨rfl,k,hk,rfl,HS⟩:=hrel
  by_cases hlt : k < 51
  ·obtain ⟨g,hg⟩ : ∃ g,keywords[k]? = some g:=⟨keywords[k]'(by rw [kw_len]; exact hlt),by simp []⟩
   have hcell : wr.cell? ⟨w.heap.size,k,none⟩ = some (.string ⟨g.toArray⟩):=by
    simp only [World.cell?,S1.out.blk 0 rfl]
    exact kwCells_at k g hg
   have HST:=Lib.hid (contains_step s g k hg)
   by_cases he : g = s
   ·have HR : Hid (keywords.contains s = true):=by show _ = _; rw [HS.out,HST.out]; simp [he]
    subst he
    clear HS HST
    go_wp2_with fail
    go_returns
    exact ⟨by rw [HR.out]; rfl,S1.out.below⟩
   ·have HR : Hid (keywords.contains s = (keywords.drop (k + 1)).contains s):=by
     show _ = _
     rw [HS.out,HST.out,show (s == g) = false from by simpa using fun e=>he e.symm,Bool.false_or]
    have hb : (g == s) = false:=by simpa using he
    clear HS HST
    go_wp2_with fail
    go_roundw
    case rel=>exact ⟨by first | rfl | trivial,k + 1,by omega,by go_num,HR.out⟩
    case measure=>simp [intOf]; omega
  ·obtain rfl : k = 51:=by omega
   have HR : Hid (keywords.contains s = false):=by show _ = _; rw [HS.out]; rfl
   go_wp2_with fail
   go_returns
   exact ⟨by rw [HR.out]; rfl,S1.out.below⟩
def RdIs (p : Nat) (x : Except Int (Tok × Nat)) (v : Value) : Prop:=match x with
 | .ok (t,n)=>v = .agg #[.int .i64 t.kind,.int .i64 (p : Int),.string ⟨t.s.toArray⟩,.int .i64 t.n,.int .i64 ((p : Int) + (n : Int)),.int .i64 0]
 | .error e=>∃ a b c d f,v = .agg #[.int .i64 a,.int .i64 b,.string c,.int .i64 d,.int .i64 f,.int .i64 e]∧e ≠ 0
def RdPost (w : World) (p : Nat) (x : Except Int (Tok × Nat)) (e : Ending) (w' : World) : Prop:=∃ v,e = .returned v∧RdIs p x v∧Below w.heap.size w w'
theorem run_step (q : UInt8→Bool) (s : Bytes) (p k : Nat) (wd : Bytes) (c : UInt8) (r : Bytes) (h : wd = (s.drop p).take k ++ (s.drop (p + k)).takeWhile q) (hu : s.drop (p + k) = c :: r) (hq : q c = true) : wd = (s.drop p).take (k + 1) ++ (s.drop (p + (k + 1))).takeWhile q:=by
 have h1 : (s.drop p)[k]? = some c:=by
  rw [List.getElem?_drop]
  have:=congrArg (·[0]?) hu
  simpa using this
 have h2 : s.drop (p + (k + 1)) = r:=by
  have:=congrArg (List.drop 1) hu
  simpa [List.drop_drop,Nat.add_assoc] using this
 rw [h,hu,h2,List.takeWhile_cons,if_pos hq,List.take_add_one,h1]
 simp
theorem run_end (q : UInt8→Bool) (s : Bytes) (p k : Nat) (wd : Bytes) (h : wd = (s.drop p).take k ++ (s.drop (p + k)).takeWhile q) (hk : p + k≤s.length) (hu : ∀ c r,s.drop (p + k) = c :: r→q c = false) : wd = (s.drop p).take k∧wd.length = k:=by
 have h0 : (s.drop (p + k)).takeWhile q = []:=by
  cases hd : s.drop (p + k) with
  | nil=>rfl
  | cons c r=>rw [List.takeWhile_cons,hu c r hd]; rfl
 rw [h0,List.append_nil] at h
 refine ⟨h,?_⟩
 rw [h]; simp; omega
theorem drop_at (s : Bytes) (i : Nat) (h : i < s.length) : ∃ c r,s.drop i = c :: r∧∃ hi : i < (⟨s.toArray⟩ : ByteArray).size,(⟨s.toArray⟩ : ByteArray)[i]'hi = c:=by
 refine ⟨s[i],s.drop (i + 1),List.drop_eq_getElem_cons h,by show i < s.toArray.size; simpa using h,?_⟩
 show s.toArray[i]'_ = _
 simp
theorem extract_run (s : Bytes) (p k : Nat) : (⟨s.toArray⟩ : ByteArray).extract p (p + k) = ⟨((s.drop p).take k).toArray⟩:=by
 rw [extract_list]; simp
theorem und_of {c : UInt8} : ((c.toNat : Int) == 95) = (c == 95):=by
 rw [Bool.eq_iff_iff,beq_iff_eq,beq_iff_eq,← UInt8.toNat_inj]
 constructor
 ·intro h; show c.toNat = 95; omega
 ·intro h; have h' : c.toNat = 95:=h; omega
theorem rword_tail {P : Prop} (h : P:=by
 rw [hx]
 refine Calls.mono (rreserved_any wd _) ?_
 rintro e w2 ⟨rfl,hb2⟩
 have S2:=Lib.hid ((St.alloc SL.out (cs:=#[.int .i64 2,.int .i64 p,.string ⟨wd.toArray⟩,.int .i64 0,.int .i64 ((p : Int) + (wd.length : Int)),.int .i64 0]) (t:=81)).kept hb2)
 clear hb2 SL hx
 have hwl : wrap64 ((p : Int) + (wd.length : Int) - (p : Int)) = (wd.length : Int):=by rw [IntWalk.wrap64_in _ ⟨by omega,by omega⟩]; omega
 cases hkw : keywords.contains wd with
 | true=>
  have HR : Hid (refWord (s.drop p) = .ok (⟨1,0,wd,0⟩,wd.length)):=by show _ = _; rw [HM.out,if_pos hkw]
  have F2:=S2.out.facts
  simp only [St.Facts,cellFacts,apartFacts,and_true] at F2
  go_wp2_with fail
  refine bodyPost_ret (v:=.agg #[.int .i64 1,.int .i64 p,.string ⟨wd.toArray⟩,.int .i64 0,.int .i64 ((p : Int) + (wd.length : Int)),.int .i64 0]) (by simp [results,Tryz.results83,go_sem,F2]) rfl ⟨_,rfl,by rw [HR.out]; rfl,?_⟩
  exact (St.set 1 (St.set 1 (St.set 1 (St.set 1 (St.set 1 (St.set 1 (St.set 0 (o:=0) (v:=.int .i64 1) S2.out rfl) rfl) rfl) rfl) rfl) rfl) rfl).below
 | false=>
  by_cases h16 : 16 < wd.length
  ·have HR : Hid (refWord (s.drop p) = .error 2):=by show _ = _; rw [HM.out,hkw,if_pos h16]; rfl
   have F2:=S2.out.facts
   simp only [St.Facts,cellFacts,apartFacts,and_true] at F2
   go_wp2_with fail
   refine bodyPost_ret (v:=.agg #[.int .i64 2,.int .i64 p,.string ⟨wd.toArray⟩,.int .i64 0,.int .i64 ((p : Int) + (wd.length : Int)),.int .i64 2]) (by simp [results,Tryz.results83,go_sem,F2]) rfl ⟨_,rfl,by rw [HR.out]; exact ⟨_,_,_,_,_,rfl,by decide⟩,?_⟩
   exact (St.set 1 (St.set 1 (St.set 1 (St.set 1 (St.set 1 (St.set 1 (St.set 0 (o:=5) (v:=.int .i64 2) S2.out rfl) rfl) rfl) rfl) rfl) rfl) rfl).below
  ·have HR : Hid (refWord (s.drop p) = .ok (⟨2,0,wd,0⟩,wd.length)):=by show _ = _; rw [HM.out,hkw,if_neg h16]; rfl
   have F2:=S2.out.facts
   simp only [St.Facts,cellFacts,apartFacts,and_true] at F2
   go_wp2_with fail
   refine bodyPost_ret (v:=.agg #[.int .i64 2,.int .i64 p,.string ⟨wd.toArray⟩,.int .i64 0,.int .i64 ((p : Int) + (wd.length : Int)),.int .i64 0]) (by simp [results,Tryz.results83,go_sem,F2]) rfl ⟨_,rfl,by rw [HR.out]; rfl,?_⟩
   exact (St.set 1 (St.set 1 (St.set 1 (St.set 1 (St.set 1 (St.set 1 S2.out rfl) rfl) rfl) rfl) rfl) rfl).below) : P:=h
set_option maxRecDepth 100000 in
set_option maxHeartbeats 8000000 in
theorem rword_any (s : Bytes) (hs : s.length≤1000000) (p : Nat) (hp : p≤s.length) (w : World) :
  Calls Tryz.prog 83 #[.string ⟨s.toArray⟩,.int .i64 (p : Int)] w (RdPost w p (refWord (s.drop p))):=by
 obtain ⟨wd,hwd⟩ : ∃ wd,(s.drop p).takeWhile accP = wd:=⟨_,rfl⟩
 have HM : Hid (refWord (s.drop p) = if keywords.contains wd then .ok (⟨1,0,wd,0⟩,wd.length) else if 16 < wd.length then .error 2 else .ok (⟨2,0,wd,0⟩,wd.length)):=by
  show _ = _
  unfold refWord
  rw [hwd]
 have HW0 : Hid (wd = (s.drop p).take 0 ++ (s.drop (p + 0)).takeWhile accP):=by show _ = _; rw [← hwd]; simp
 have S0:=Lib.hid (St.start w)
 clear hwd
 have hsz : (⟨s.toArray⟩ : ByteArray).size = s.length:=by show s.toArray.size = _; simp
 go_enter Tryz.func83,Tryz.ntmps83
 go_wp2_with fail
 refine codeGenT (fun W=>St w W [(w.heap.size,#[.int .i64 0,.int .i64 0,.string ⟨#[]⟩,.int .i64 0,.int .i64 0,.int .i64 0],81)]) (St.alloc S0.out) ?_
 clear S0
 intro wl SL'
 have SL:=Lib.hid SL'
 clear SL'
 go_loopw [5] (fun i wr=>wr = wl∧∃ k : Nat,p + k≤s.length∧i = .int .i64 ((p + k : Nat) : Int)∧Hid (wd = (s.drop p).take k ++ (s.drop (p + k)).takeWhile accP)) (fun i _=>s.length - (intOf i).toNat)
 case atStart=>exact ⟨rfl,0,by omega,rfl,HW0.out⟩
 case round=>
  clear HW0
  obtain ⟨rfl,k,hk,rfl,HW⟩:=hrel
  by_cases hlt : p + k < s.length
  ·obtain ⟨c,r,hu,hi,hidx⟩:=drop_at s (p + k) hlt
   have C1:=Lib.hid (fun W=>rlower_any c W)
   have C2:=Lib.hid (fun W=>rdig_any c W)
   have hci : (((p + k : Nat) : Int) < (s.length : Int)):=by omega
   cases ha : accP c with
   | true=>
    have HW2:=Lib.hid (run_step accP s p k wd c r HW.out hu ha)
    clear HW
    cases h1 : lowB c with
    | true=>
     rw [h1] at C1
     go_wp2_with fail
     refine Calls.mono (C1.out _) ?_
     rintro e w3 ⟨rfl,rfl⟩
     go_wp2_with fail
     go_roundw
     case rel=>exact ⟨by first | rfl | trivial,k + 1,by omega,by go_num,HW2.out⟩
     case measure=>simp [intOf]; omega
    | false=>
     rw [h1] at C1
     cases h2 : digB' c with
     | true=>
      rw [h2] at C2
      go_wp2_with fail
      refine Calls.mono (C1.out _) ?_
      rintro e w3 ⟨rfl,rfl⟩
      go_wp2_with fail
      refine Calls.mono (C2.out _) ?_
      rintro e w3 ⟨rfl,rfl⟩
      go_wp2_with fail
      go_roundw
      case rel=>exact ⟨by first | rfl | trivial,k + 1,by omega,by go_num,HW2.out⟩
      case measure=>simp [intOf]; omega
     | false=>
      rw [h2] at C2
      have h95 : ((c.toNat : Int) == 95) = true:=by
       rw [und_of]
       unfold accP at ha
       rw [h1,h2] at ha
       simpa using ha
      go_wp2_with fail
      refine Calls.mono (C1.out _) ?_
      rintro e w3 ⟨rfl,rfl⟩
      go_wp2_with fail
      refine Calls.mono (C2.out _) ?_
      rintro e w3 ⟨rfl,rfl⟩
      go_wp2_with fail
      go_roundw
      case rel=>exact ⟨by first | rfl | trivial,k + 1,by omega,by go_num,HW2.out⟩
      case measure=>simp [intOf]; omega
   | false=>
    obtain ⟨e1,e2⟩:=run_end accP s p k wd HW.out hk (fun c' r' e=>by rw [hu] at e; cases e; exact ha)
    have ha':=ha
    unfold accP at ha'
    simp only [Bool.or_eq_false_iff] at ha'
    obtain ⟨⟨h1,h2⟩,h3⟩:=ha'
    have h95 : ((c.toNat : Int) == 95) = false:=by rw [und_of]; exact h3
    rw [h1] at C1
    rw [h2] at C2
    go_wp2_with fail
    refine Calls.mono (C1.out _) ?_
    rintro e w3 ⟨rfl,rfl⟩
    go_wp2_with fail
    refine Calls.mono (C2.out _) ?_
    rintro e w3 ⟨rfl,rfl⟩
    go_wp2_with fail
    subst e2
    have hx : (⟨s.toArray⟩ : ByteArray).extract p (p + wd.length) = ⟨wd.toArray⟩:=by rw [extract_run,← e1]
    clear HW e1 hidx hu
    exact rword_tail
  ·obtain ⟨e1,e2⟩:=run_end accP s p k wd HW.out hk (fun c' r' e=>by rw [show p + k = s.length by omega] at e; simp at e)
   go_wp2_with fail
   subst e2
   have hx : (⟨s.toArray⟩ : ByteArray).extract p (p + wd.length) = ⟨wd.toArray⟩:=by rw [extract_run,← e1]
   clear HW e1
   exact rword_tail
def joinedAt (s : Bytes) (i : Nat) : Bool:=match s.drop i with | []=>false | d :: _=>lowB d || d == 95
theorem refNum_at (s : Bytes) (p : Nat) (c0 : UInt8) (r0 ds : Bytes) (n : Int) (b : Bool) (h0 : s.drop p = c0 :: r0) (hds : (s.drop p).takeWhile digB' = ds) (hN : numFold ds (0,true) = (n,b)) :
  refNum (s.drop p) = if !b || joinedAt s (p + ds.length) || (c0 == 48 && decide (1 < ds.length)) then .error 381 else .ok (⟨3,0,[],n⟩,ds.length):=by
 unfold refNum joinedAt
 dsimp only
 rw [hds,hN,List.drop_drop,h0,List.head?_cons]
 rfl
theorem numFold_one (s : Bytes) (p k : Nat) (c : UInt8) (r : Bytes) (hu : s.drop (p + k) = c :: r) (n : Int) (b : Bool) (h : numFold ((s.drop p).take k) (0,true) = (n,b)) :
  numFold ((s.drop p).take (k + 1)) (0,true) = if 549755813888 < n * 10 + ((c.toNat : Int) - 48) then (0,false) else (n * 10 + ((c.toNat : Int) - 48),b):=by
 have h1 : (s.drop p)[k]? = some c:=by
  rw [List.getElem?_drop]
  have:=congrArg (·[0]?) hu
  simpa using this
 rw [List.take_add_one,h1,show (some c).toList = [c] from rfl,numFold_snoc,h]
 rfl
theorem take_digs {s ds : Bytes} {p k : Nat} (h : ds = (s.drop p).take k ++ (s.drop (p + k)).takeWhile digB') (hall : ∀ c ∈ ds,digB' c = true) : ∀ c ∈ (s.drop p).take k,digB' c = true:=fun c hc=>hall c (by rw [h]; exact List.mem_append.2 (.inl hc))
theorem sub48 (c : UInt8) (h : digB' c = true) : IntKind.u8.wrap ((c.toNat : Int) - 48) = (c.toNat : Int) - 48:=by
 have h:=h
 unfold digB' at h
 simp only [Bool.and_eq_true,decide_eq_true_eq] at h
 have:=c.toNat_lt
 have e : IntKind.u8.bits = 8:=rfl
 unfold IntKind.wrap
 simp [e]
 omega
theorem fo48 {c : UInt8} : ((c.toNat : Int) == 48) = (c == 48):=by
 rw [Bool.eq_iff_iff,beq_iff_eq,beq_iff_eq,← UInt8.toNat_inj]
 constructor
 ·intro h; show c.toNat = 48; omega
 ·intro h; have h' : c.toNat = 48:=h; omega
theorem rnum_bad {P : Prop} (h : P:=by
 have HR : Hid (refNum (s.drop p) = .error 381):=by show _ = _; rw [HR0.out,HJ.out]; simp
 go_upto_region 12 with fail
 refine St.gen (St.alloc SL.out (cs:=#[.int .i64 3,.int .i64 p,.string ⟨#[]⟩,.int .i64 n,.int .i64 ((p : Int) + (ds.length : Int)),.int .i64 0]) (t:=81)) ?_
 intro w2 S2
 clear SL
 have F2:=S2.out.facts
 simp only [St.Facts,cellFacts,apartFacts,and_true] at F2
 go_wp2_with fail
 all_goals refine bodyPost_ret (v:=.agg #[.int .i64 3,.int .i64 p,.string ⟨#[]⟩,.int .i64 n,.int .i64 ((p : Int) + (ds.length : Int)),.int .i64 381]) (by simp [results,Tryz.results85,go_sem,F2]) rfl ⟨_,rfl,by rw [HR.out]; exact ⟨_,_,_,_,_,rfl,by decide⟩,?_⟩
 all_goals exact (St.set 1 (St.set 1 (St.set 1 (St.set 1 (St.set 1 (St.set 1 (St.set 0 (o:=5) (v:=.int .i64 381) S2.out rfl) rfl) rfl) rfl) rfl) rfl) rfl).below) : P:=h
theorem rnum_on {P : Prop} (h : P:=by
 go_upto_region 12 with fail
 refine St.gen (St.alloc SL.out (cs:=#[.int .i64 3,.int .i64 p,.string ⟨#[]⟩,.int .i64 n,.int .i64 ((p : Int) + (ds.length : Int)),.int .i64 0]) (t:=81)) ?_
 intro w2 S2
 clear SL
 have F2:=S2.out.facts
 simp only [St.Facts,cellFacts,apartFacts,and_true] at F2
 have hwl : wrap64 ((p : Int) + (ds.length : Int) - (p : Int)) = (ds.length : Int):=by rw [IntWalk.wrap64_in _ ⟨by omega,by omega⟩]; omega
 have h480:=@fo48 c0
 cases h48 : c0 == 48 with
 | true=>
  rw [h48] at h480
  by_cases hlen : 1 < ds.length
  ·have HR : Hid (refNum (s.drop p) = .error 381):=by show _ = _; rw [HR0.out,HJ.out,h48,decide_eq_true hlen]; simp
   cases b
   all_goals go_wp2_with fail
   all_goals refine bodyPost_ret (v:=.agg #[.int .i64 3,.int .i64 p,.string ⟨#[]⟩,.int .i64 n,.int .i64 ((p : Int) + (ds.length : Int)),.int .i64 381]) (by simp [results,Tryz.results85,go_sem,F2]) rfl ⟨_,rfl,by rw [HR.out]; exact ⟨_,_,_,_,_,rfl,by decide⟩,?_⟩
   all_goals exact (St.set 1 (St.set 1 (St.set 1 (St.set 1 (St.set 1 (St.set 1 (St.set 0 (o:=5) (v:=.int .i64 381) S2.out rfl) rfl) rfl) rfl) rfl) rfl) rfl).below
  ·cases b with
   | true=>
    have HR : Hid (refNum (s.drop p) = .ok (⟨3,0,[],n⟩,ds.length)):=by show _ = _; rw [HR0.out,HJ.out,h48,decide_eq_false hlen]; simp
    go_wp2_with fail
    refine bodyPost_ret (v:=.agg #[.int .i64 3,.int .i64 p,.string ⟨#[]⟩,.int .i64 n,.int .i64 ((p : Int) + (ds.length : Int)),.int .i64 0]) (by simp [results,Tryz.results85,go_sem,F2]) rfl ⟨_,rfl,by rw [HR.out]; rfl,?_⟩
    exact (St.set 1 (St.set 1 (St.set 1 (St.set 1 (St.set 1 (St.set 1 S2.out rfl) rfl) rfl) rfl) rfl) rfl).below
   | false=>
    have HR : Hid (refNum (s.drop p) = .error 381):=by show _ = _; rw [HR0.out,HJ.out]; simp
    go_wp2_with fail
    refine bodyPost_ret (v:=.agg #[.int .i64 3,.int .i64 p,.string ⟨#[]⟩,.int .i64 n,.int .i64 ((p : Int) + (ds.length : Int)),.int .i64 381]) (by simp [results,Tryz.results85,go_sem,F2]) rfl ⟨_,rfl,by rw [HR.out]; exact ⟨_,_,_,_,_,rfl,by decide⟩,?_⟩
    exact (St.set 1 (St.set 1 (St.set 1 (St.set 1 (St.set 1 (St.set 1 (St.set 0 (o:=5) (v:=.int .i64 381) S2.out rfl) rfl) rfl) rfl) rfl) rfl) rfl).below
 | false=>
  rw [h48] at h480
  cases b with
  | true=>
   have HR : Hid (refNum (s.drop p) = .ok (⟨3,0,[],n⟩,ds.length)):=by show _ = _; rw [HR0.out,HJ.out,h48]; simp
   go_wp2_with fail
   refine bodyPost_ret (v:=.agg #[.int .i64 3,.int .i64 p,.string ⟨#[]⟩,.int .i64 n,.int .i64 ((p : Int) + (ds.length : Int)),.int .i64 0]) (by simp [results,Tryz.results85,go_sem,F2]) rfl ⟨_,rfl,by rw [HR.out]; rfl,?_⟩
   exact (St.set 1 (St.set 1 (St.set 1 (St.set 1 (St.set 1 (St.set 1 S2.out rfl) rfl) rfl) rfl) rfl) rfl).below
  | false=>
   have HR : Hid (refNum (s.drop p) = .error 381):=by show _ = _; rw [HR0.out,HJ.out]; simp
   go_wp2_with fail
   refine bodyPost_ret (v:=.agg #[.int .i64 3,.int .i64 p,.string ⟨#[]⟩,.int .i64 n,.int .i64 ((p : Int) + (ds.length : Int)),.int .i64 381]) (by simp [results,Tryz.results85,go_sem,F2]) rfl ⟨_,rfl,by rw [HR.out]; exact ⟨_,_,_,_,_,rfl,by decide⟩,?_⟩
   exact (St.set 1 (St.set 1 (St.set 1 (St.set 1 (St.set 1 (St.set 1 (St.set 0 (o:=5) (v:=.int .i64 381) S2.out rfl) rfl) rfl) rfl) rfl) rfl) rfl).below) : P:=h
set_option maxRecDepth 100000 in
set_option maxHeartbeats 8000000 in
theorem rnumber_any (s : Bytes) (hs : s.length≤1000000) (p : Nat) (hp : p < s.length) (w : World) :
  Calls Tryz.prog 85 #[.string ⟨s.toArray⟩,.int .i64 (p : Int)] w (RdPost w p (refNum (s.drop p))):=by
 obtain ⟨ds,hds⟩ : ∃ wd,(s.drop p).takeWhile digB' = wd:=⟨_,rfl⟩
 obtain ⟨c0,r0,h0,hi0,hidx0⟩:=drop_at s p hp
 have HM:=Lib.hid (fun n b=>refNum_at s p c0 r0 ds n b h0 hds)
 have HALL : Hid (∀ c ∈ ds,digB' c = true):=by show ∀ c ∈ ds,_; rw [← hds]; exact takeW_all _ _
 have HW0 : Hid (ds = (s.drop p).take 0 ++ (s.drop (p + 0)).takeWhile digB'):=by show _ = _; rw [← hds]; simp
 have S0:=Lib.hid (St.start w)
 clear hds h0
 have hsz : (⟨s.toArray⟩ : ByteArray).size = s.length:=by show s.toArray.size = _; simp
 go_enter Tryz.func85,Tryz.ntmps85
 go_wp2_with fail
 refine codeGenT (fun W=>St w W [(w.heap.size,#[.int .i64 0,.int .i64 0,.string ⟨#[]⟩,.int .i64 0,.int .i64 0,.int .i64 0],81)]) (St.alloc S0.out) ?_
 clear S0
 intro wl SL'
 have SL:=Lib.hid SL'
 clear SL'
 go_loopw [5,6,7] (fun i nv fv wr=>wr = wl∧∃ (k : Nat) (n : Int) (b : Bool),p + k≤s.length∧i = .int .i64 ((p + k : Nat) : Int)∧nv = .int .i64 n∧fv = .bool b∧0≤n∧n≤549755813888∧Hid (numFold ((s.drop p).take k) (0,true) = (n,b))∧Hid (ds = (s.drop p).take k ++ (s.drop (p + k)).takeWhile digB')) (fun i _ _ _=>s.length - (intOf i).toNat)
 case atStart=>exact ⟨rfl,0,0,true,by omega,rfl,rfl,rfl,by omega,by omega,rfl,HW0.out⟩
 case round=>
  clear HW0
  obtain ⟨rfl,k,n,b,hk,rfl,rfl,rfl,hn0,hn1,HN,HW⟩:=hrel
  by_cases hlt : p + k < s.length
  ·obtain ⟨c,r,hu,hi,hidx⟩:=drop_at s (p + k) hlt
   have C2:=Lib.hid (fun W=>rdig_any c W)
   have hci : (((p + k : Nat) : Int) < (s.length : Int)):=by omega
   cases ha : digB' c with
   | true=>
    have HW2:=Lib.hid (run_step digB' s p k ds c r HW.out hu ha)
    have HN2:=Lib.hid (numFold_one s p k c r hu n b HN.out)
    have HB:=Lib.hid (numFold_bound ((s.drop p).take (k + 1)) 0 true (take_digs HW2.out HALL.out) (by omega) (by omega))
    have h48:=sub48 c ha
    have hc:=ha
    unfold digB' at hc
    simp only [Bool.and_eq_true,decide_eq_true_eq] at hc
    obtain ⟨hc1,hc2⟩:=hc
    rw [ha] at C2
    clear HW HN ha
    go_wp2_with fail
    refine Calls.mono (C2.out _) ?_
    rintro e w3 ⟨rfl,rfl⟩
    by_cases hm : 549755813888 < n * 10 + ((c.toNat : Int) - 48)
    ·have HN3 : Hid (numFold ((s.drop p).take (k + 1)) (0,true) = (0,false)):=by show _ = _; rw [HN2.out,if_pos hm]
     go_wp2_with fail
     go_roundw
     case rel=>exact ⟨by first | rfl | trivial,k + 1,_,_,by omega,by go_num,rfl,rfl,by omega,by omega,HN3.out,HW2.out⟩
     case measure=>simp [intOf]; omega
    ·have HN3 : Hid (numFold ((s.drop p).take (k + 1)) (0,true) = (n * 10 + ((c.toNat : Int) - 48),b)):=by show _ = _; rw [HN2.out,if_neg hm]
     go_wp2_with fail
     go_roundw
     case rel=>exact ⟨by first | rfl | trivial,k + 1,_,_,by omega,by go_num,rfl,rfl,by omega,by omega,HN3.out,HW2.out⟩
     case measure=>simp [intOf]; omega
   | false=>
    obtain ⟨e1,e2⟩:=run_end digB' s p k ds HW.out hk (fun c' r' e=>by rw [hu] at e; cases e; exact ha)
    have HN4 : Hid (numFold ds (0,true) = (n,b)):=by show _ = _; rw [e1]; exact HN.out
    rw [ha] at C2
    subst e2
    have hj : joinedAt s (p + ds.length) = (lowB c || c == 95):=by unfold joinedAt; rw [hu]
    have C1:=Lib.hid (fun W=>rlower_any c W)
    have HR0:=Lib.hid (HM.out n b HN4.out)
    clear HW HN HM HN4 e1 hu
    go_wp2_with fail
    refine Calls.mono (C2.out _) ?_
    rintro e w3 ⟨rfl,rfl⟩
    go_wp2_with fail
    cases h1 : lowB c with
    | true=>
     have HJ : Hid (joinedAt s (p + ds.length) = true):=by show _ = _; rw [hj,h1]; rfl
     rw [h1] at C1
     refine Calls.mono (C1.out _) ?_
     rintro e w3 ⟨rfl,rfl⟩
     exact rnum_bad
    | false=>
     rw [h1] at C1
     cases h95 : c == 95 with
     | true=>
      have HJ : Hid (joinedAt s (p + ds.length) = true):=by show _ = _; rw [hj,h1,h95]; rfl
      have h95' : ((c.toNat : Int) == 95) = true:=by rw [und_of]; exact h95
      refine Calls.mono (C1.out _) ?_
      rintro e w3 ⟨rfl,rfl⟩
      exact rnum_bad
     | false=>
      have HJ : Hid (joinedAt s (p + ds.length) = false):=by show _ = _; rw [hj,h1,h95]; rfl
      have h95' : ((c.toNat : Int) == 95) = false:=by rw [und_of]; exact h95
      refine Calls.mono (C1.out _) ?_
      rintro e w3 ⟨rfl,rfl⟩
      exact rnum_on
  ·obtain ⟨e1,e2⟩:=run_end digB' s p k ds HW.out hk (fun c' r' e=>by rw [show p + k = s.length by omega] at e; simp at e)
   have HN4 : Hid (numFold ds (0,true) = (n,b)):=by show _ = _; rw [e1]; exact HN.out
   subst e2
   have HJ : Hid (joinedAt s (p + ds.length) = false):=by show _ = _; unfold joinedAt; rw [List.drop_of_length_le (by omega)]
   have HR0:=Lib.hid (HM.out n b HN4.out)
   clear HW HN HM HN4 e1
   exact rnum_on
theorem oneSigns_len : oneSigns.length = 10:=rfl
theorem one_step (c g : UInt8) (k : Nat) (h : oneSigns[k]? = some g) : (oneSigns.drop k).contains c = (c == g || (oneSigns.drop (k + 1)).contains c):=by
 obtain ⟨h1,rfl⟩:=List.getElem?_eq_some_iff.1 h
 rw [List.drop_eq_getElem_cons h1,List.contains_cons]
theorem one_at (k : Nat) (g : UInt8) (h : oneSigns[k]? = some g) : ∃ hi : k < (⟨oneSigns.toArray⟩ : ByteArray).size,(⟨oneSigns.toArray⟩ : ByteArray)[k]'hi = g∧(⟨oneSigns.toArray⟩ : ByteArray).extract k (k + 1) = ⟨[g].toArray⟩:=by
 obtain ⟨h1,rfl⟩:=List.getElem?_eq_some_iff.1 h
 refine ⟨by show k < oneSigns.toArray.size; simpa using h1,?_,?_⟩
 ·show oneSigns.toArray[k]'_ = _
  simp
 ·rw [extract_list]
  simp only [show k + 1 - k = 1 by omega]
  rw [List.drop_eq_getElem_cons h1]; rfl
theorem one_lit (k : Nat) (g : UInt8) (h : oneSigns[k]? = some g) : ∃ hi : k < (⟨#[40,41,44,46,61,60,62,43,45,42]⟩ : ByteArray).size,(⟨#[40,41,44,46,61,60,62,43,45,42]⟩ : ByteArray)[k]'hi = g∧(⟨#[40,41,44,46,61,60,62,43,45,42]⟩ : ByteArray).extract k (k + 1) = ⟨#[g]⟩:=one_at k g h
theorem rsign_one {P : Prop} (h : P:=by
 go_enter Tryz.func87,Tryz.ntmps87
 go_wp2_with fail
 try (simp only [hx]; clear hx)
 try simp only [hd]
 clear hd
 refine codeGenT (fun W=>St w W [(w.heap.size,#[.int .i64 0,.int .i64 0,.string ⟨#[]⟩,.int .i64 0,.int .i64 0,.int .i64 0],81)]) (St.alloc S0.out) ?_
 clear S0
 intro wl SL'
 have SL:=Lib.hid SL'
 clear SL'
 go_loopw [7] (fun i wr=>∃ k : Nat,k≤10∧i = .int .i64 k∧Hid (oneSigns.contains c0 = (oneSigns.drop k).contains c0)∧Hid (St w wr [(w.heap.size,#[.int .i64 0,.int .i64 0,.string ⟨#[]⟩,.int .i64 0,.int .i64 0,.int .i64 0],81)])) (fun i _=>10 - (intOf i).toNat)
 case atStart=>exact ⟨0,by omega,rfl,rfl,SL.out⟩
 case round=>
  clear SL
  obtain ⟨k,hk,rfl,HS,S⟩:=hrel
  by_cases hlt : k < 10
  ·obtain ⟨g,hg⟩ : ∃ g,oneSigns[k]? = some g:=⟨oneSigns[k]'(by rw [oneSigns_len]; exact hlt),by simp [oneSigns_len,hlt]⟩
   obtain ⟨hi,hidx,hx1⟩:=one_lit k g hg
   have hst:=one_step c0 g k hg
   by_cases hcg : c0 = g
   ·have HR : Hid (refSign (s.drop p) = .ok (⟨5,0,[c0],0⟩,1)):=by show _ = _; rw [HM.out,HS.out,hst,hcg]; simp
    subst hcg
    clear hst HS hg
    go_wp2_with fail
    refine wp_region_mixed 7 [(0,false),(1,false),(2,false),(3,false),(4,false),(5,false),(6,false)] (by kernel_rfl) (by kernel_rfl) ?_
    repeat (refine wpM_mild rfl (fun K hK=>?_); go_simp; first | (refine hK _ ?_; clear hK K) | (apply Exists.intro; refine ⟨fun _=>?_,hK _ ?_⟩; (fail); clear hK K))
    refine wpM_end ?_
    intro w3 hb3 _
    have S3:=Lib.hid (S.out.kept hb3)
    clear hb3 S
    have F3:=S3.out.facts
    simp only [St.Facts,cellFacts,apartFacts,and_true] at F3
    go_wp2_with fail
    refine bodyPost_ret (v:=.agg #[.int .i64 5,.int .i64 p,.string ⟨#[c0]⟩,.int .i64 0,.int .i64 ((p : Int) + 1),.int .i64 0]) (by simp [results,Tryz.results87,go_sem,F3]) rfl ⟨_,rfl,by rw [HR.out]; rfl,?_⟩
    exact (St.set 0 (St.set 0 (St.set 0 (St.set 0 (St.set 0 (St.set 0 S3.out rfl) rfl) rfl) rfl) rfl) rfl).below
   ·have HS2 : Hid (oneSigns.contains c0 = (oneSigns.drop (k + 1)).contains c0):=by
     show _ = _
     rw [HS.out,hst,show (c0 == g) = false by simpa using hcg,Bool.false_or]
    have hne : ((c0.toNat : Int) == (g.toNat : Int)) = false:=by
     rw [beq_eq_false_iff_ne]; intro e; exact hcg (UInt8.toNat_inj.1 (by omega))
    clear hst HS hg
    go_wp2_with fail
    refine wp_region_mixed 7 [(0,false),(1,false),(2,false),(3,false),(4,false),(5,false),(6,false)] (by kernel_rfl) (by kernel_rfl) ?_
    repeat (refine wpM_mild rfl (fun K hK=>?_); go_simp; first | (refine hK _ ?_; clear hK K) | (apply Exists.intro; refine ⟨fun _=>?_,hK _ ?_⟩; (fail); clear hK K))
    refine wpM_end ?_
    intro w3 hb3 _
    have S3:=Lib.hid (S.out.kept hb3)
    clear hb3 S
    go_wp2_with fail
    go_roundw
    case rel=>exact ⟨k + 1,by omega,by go_num,HS2.out,S3.out⟩
    case measure=>simp [intOf]; omega
  ·obtain rfl : k = 10:=by omega
   have HR : Hid (refSign (s.drop p) = .error 380):=by show _ = _; rw [HM.out,HS.out]; rfl
   have S3:=S
   clear S
   have F3:=S3.out.facts
   simp only [St.Facts,cellFacts,apartFacts,and_true] at F3
   go_wp2_with fail
   refine bodyPost_ret (v:=.agg #[.int .i64 0,.int .i64 0,.string ⟨#[]⟩,.int .i64 0,.int .i64 0,.int .i64 380]) (by simp [results,Tryz.results87,go_sem,F3]) rfl ⟨_,rfl,by rw [HR.out]; exact ⟨_,_,_,_,_,rfl,by decide⟩,?_⟩
   exact (St.set 0 (St.set 0 (St.set 0 (St.set 0 (St.set 0 (St.set 0 S3.out rfl) rfl) rfl) rfl) rfl) rfl).below) : P:=h
set_option maxRecDepth 100000 in
set_option maxHeartbeats 8000000 in
theorem rsign_any (s : Bytes) (hs : s.length≤1000000) (p : Nat) (hp : p < s.length) (w : World) :
  Calls Tryz.prog 87 #[.string ⟨s.toArray⟩,.int .i64 (p : Int)] w (RdPost w p (refSign (s.drop p))):=by
 obtain ⟨c0,r0,h0,hi0,hidx0⟩:=drop_at s p hp
 have S0:=Lib.hid (St.start w)
 have hsz : (⟨s.toArray⟩ : ByteArray).size = s.length:=by show s.toArray.size = _; simp
 have hlen : (s.drop p).length = s.length - p:=by simp
 by_cases h2 : p + 2≤s.length
 ·have hd : decide ((p : Int) + 2≤(s.length : Int)) = true:=decide_eq_true (by omega)
  obtain ⟨two,htw⟩ : ∃ t,(s.drop p).take 2 = t:=⟨_,rfl⟩
  have hx : (⟨s.toArray⟩ : ByteArray).extract p (p + 2) = ⟨two.toArray⟩:=by rw [extract_run,htw]
  by_cases hin : two = [60,62]∨two = [60,61]∨two = [62,61]
  ·have HR : Hid (refSign (s.drop p) = .ok (⟨5,0,two,0⟩,2)):=by show _ = _; unfold refSign; rw [htw,if_pos ⟨by omega,hin⟩]
   clear htw hlen h0
   rcases hin with rfl | rfl | rfl
   all_goals go_enter Tryz.func87,Tryz.ntmps87
   all_goals go_wp2_with fail
   ·have S1:=Lib.hid (St.alloc S0.out (cs:=#[.int .i64 5,.int .i64 p,.string ⟨#[60,62]⟩,.int .i64 0,.int .i64 ((p : Int) + 2),.int .i64 0]) (t:=81))
    have F1:=S1.out.facts
    simp only [St.Facts,cellFacts,apartFacts,and_true] at F1
    exact bodyPost_ret (v:=.agg #[.int .i64 5,.int .i64 p,.string ⟨#[60,62]⟩,.int .i64 0,.int .i64 ((p : Int) + 2),.int .i64 0]) (by simp [results,Tryz.results87,go_sem,F1]) rfl ⟨_,rfl,by rw [HR.out]; rfl,S1.out.below⟩
   ·have S1:=Lib.hid (St.alloc S0.out (cs:=#[.int .i64 5,.int .i64 p,.string ⟨#[60,61]⟩,.int .i64 0,.int .i64 ((p : Int) + 2),.int .i64 0]) (t:=81))
    have F1:=S1.out.facts
    simp only [St.Facts,cellFacts,apartFacts,and_true] at F1
    exact bodyPost_ret (v:=.agg #[.int .i64 5,.int .i64 p,.string ⟨#[60,61]⟩,.int .i64 0,.int .i64 ((p : Int) + 2),.int .i64 0]) (by simp [results,Tryz.results87,go_sem,F1]) rfl ⟨_,rfl,by rw [HR.out]; rfl,S1.out.below⟩
   ·have S1:=Lib.hid (St.alloc S0.out (cs:=#[.int .i64 5,.int .i64 p,.string ⟨#[62,61]⟩,.int .i64 0,.int .i64 ((p : Int) + 2),.int .i64 0]) (t:=81))
    have F1:=S1.out.facts
    simp only [St.Facts,cellFacts,apartFacts,and_true] at F1
    exact bodyPost_ret (v:=.agg #[.int .i64 5,.int .i64 p,.string ⟨#[62,61]⟩,.int .i64 0,.int .i64 ((p : Int) + 2),.int .i64 0]) (by simp [results,Tryz.results87,go_sem,F1]) rfl ⟨_,rfl,by rw [HR.out]; rfl,S1.out.below⟩
  ·have HM : Hid (refSign (s.drop p) = if oneSigns.contains c0 then .ok (⟨5,0,[c0],0⟩,1) else .error 380):=by
    show _ = _
    unfold refSign
    rw [htw,if_neg (fun h=>hin h.2),h0]
   clear htw hlen h0
   have n1 : (two == ([60,62] : Bytes)) = false:=by simpa using fun e=>hin (.inl e)
   have n2 : (two == ([60,61] : Bytes)) = false:=by simpa using fun e=>hin (.inr (.inl e))
   have n3 : (two == ([62,61] : Bytes)) = false:=by simpa using fun e=>hin (.inr (.inr e))
   exact rsign_one
 ·have HM : Hid (refSign (s.drop p) = if oneSigns.contains c0 then .ok (⟨5,0,[c0],0⟩,1) else .error 380):=by
   show _ = _
   unfold refSign
   rw [if_neg (fun h=>by omega),h0]
  clear hlen h0
  have hd : decide ((p : Int) + 2≤(s.length : Int)) = false:=decide_eq_false (by omega)
  exact rsign_one
end Go.Proofs.YtimoefagohifaaaGreatDoor
