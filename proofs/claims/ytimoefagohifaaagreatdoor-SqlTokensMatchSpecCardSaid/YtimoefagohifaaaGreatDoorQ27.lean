/-
  Part 27 of the texts of one proof, made small by a program: see the last part for what is proved. No condition.
-/
import Derived.Test.YtimoefagohifaaaGreatDoorQ16
import Derived.Test.YtimoefagohifaaaGreatDoorQ17
import Derived.Test.YtimoefagohifaaaGreatDoorQ21
import Derived.Test.YtimoefagohifaaaGreatDoorQ26
namespace Go.Proofs.YtimoefagohifaaaGreatDoor
open Go.RowKit
theorem gFold_dec (m : Nat) : ∀ r,gFold 0 (Lib.decDigits m ++ r) = gFold (m : Int) r:=by
 induction m using Nat.strongRecOn with
 | _ m ih=>
  intro r
  have h45 : ∀ d : Nat,d < 10→UInt8.ofNat (48 + d) ≠ 45:=fun d hd e=>by
   have:=congrArg UInt8.toNat e
   rw [digB d hd] at this
   simp at this
   omega
  rw [Lib.decDigits]
  split
  ·rename_i h
   simp only [List.cons_append,List.nil_append,gFold,if_neg (h45 m h),digB m h]
   congr 1
   omega
  ·rename_i h
   rw [List.append_assoc,ih (m / 10) (by omega)]
   simp only [List.cons_append,List.nil_append,gFold,if_neg (h45 (m % 10) (by omega)),digB (m % 10) (by omega)]
   congr 1
   omega
theorem dec13 (m : Nat) (h : m≤549755813888) : (Lib.decDigits m).length≤12:=decLen_pow 11 m (by omega)
theorem gNum_itoa (n : Int) (h0 : -549755813888≤n) (h1 : n≤549755813887) : gNum (Lib.itoa n) = n:=by
 unfold gNum Lib.itoa
 split
 ·rename_i h
  have hl:=dec13 n.natAbs (by omega)
  rw [if_pos List.head?_cons,List.take_of_length_le (by simp; omega)]
  have:=gFold_dec n.natAbs []
  rw [List.append_nil] at this
  simp only [gFold,if_true,this]
  omega
 ·rename_i h
  have hl:=dec13 n.toNat (by omega)
  have hne : (Lib.decDigits n.toNat).head? ≠ some 45:=by
   intro e
   cases hd : Lib.decDigits n.toNat with
   | nil=>rw [hd] at e; cases e
   | cons c r=>
    rw [hd] at e
    have hc:=decDigits_all n.toNat c (by rw [hd]; simp)
    have : c = 45:=by simpa using e
    rw [this] at hc
    revert hc; decide
  rw [if_neg hne,List.take_of_length_le (by omega)]
  have:=gFold_dec n.toNat []
  rw [List.append_nil] at this
  rw [this]
  simp only [gFold]
  omega
set_option maxRecDepth 100000 in
theorem dig0_facts : ((List.range 16).all fun d=>decide (dig0 (hexD d) = d)) = true:=by decide +kernel
theorem dig0_hexD (d : Nat) (h : d < 16) : dig0 (hexD d) = d:=by
 simpa using List.all_eq_true.1 dig0_facts d (by simpa using h)
theorem gT_esc_all : ∀ l : List UInt8,gT (l.flatMap escB ++ [39]) = l
 | []=>rfl
 | c :: l=>by
  have ih:=gT_esc_all l
  rw [List.flatMap_cons]
  cases hp : plainB (c.toNat : Int)
  ·have hc:=c.toNat_lt
   rw [escB_esc hp]
   simp only [List.cons_append,List.nil_append]
   rw [gT_esc,ih,dig0_hexD _ (by omega),dig0_hexD _ (by omega),show c.toNat / 16 * 16 + c.toNat % 16 = c.toNat by omega]
   simp
  ·rw [escB_plain hp]
   simp only [List.cons_append,List.nil_append]
   cases hm : l.flatMap escB ++ [39] with
   | nil=>simp at hm
   | cons x r=>
    rw [gT_plain (plain92 hp),← hm,ih]
theorem guess_print (v : V) (h : v.right = true) : guess v.print = v:=by
 obtain ⟨k,n,s⟩:=v
 rcases right_cases h with h1 | h1 | h1 | h1
 ·obtain ⟨e1,e2,e3⟩:=h1; simp only at e1 e2 e3; subst e1 e2 e3; rfl
 ·obtain ⟨e1,e2,e3,e4⟩:=h1; simp only at e1 e2 e3 e4; subst e1 e2
  have hp : V.print ⟨1,n,⟨#[]⟩⟩ = Lib.itoa n:=rfl
  rw [hp]
  obtain ⟨c,r,hi,hc⟩:=itoa_head n
  have hne : ∀ d l,d.toNat ≠ 45→¬ (48≤d.toNat∧d.toNat≤57)→Lib.itoa n ≠ d :: l:=fun d l h1 h2 e=>by
   rw [hi] at e
   have:=(List.cons.inj e).1
   subst this
   omega
  have hh : (Lib.itoa n).head? ≠ some 39:=by
   rw [hi]; intro e
   have : c = 39:=by simpa using e
   subst this; revert hc; decide
  unfold guess bTrue bFalse bNull
  rw [if_neg (hne 116 _ (by decide) (by decide)),if_neg (hne 102 _ (by decide) (by decide)),if_neg hh,if_neg (hne 110 _ (by decide) (by decide)),gNum_itoa n e3 e4]
 ·obtain ⟨e1,e2,e3⟩:=h1; simp only at e1 e2 e3; subst e1 e2
  have hp : V.print ⟨2,0,s⟩ = 39 :: (s.data.toList.flatMap escB ++ [39]):=rfl
  rw [hp]
  have hne : ∀ d l,d ≠ 39→(39 :: (s.data.toList.flatMap escB ++ [39]) : List UInt8) ≠ d :: l:=fun d l h e=>h (List.cons.inj e).1.symm
  unfold guess bTrue bFalse
  rw [if_neg (hne 116 _ (by decide)),if_neg (hne 102 _ (by decide)),if_pos List.head?_cons]
  simp only [List.drop_succ_cons,List.drop_zero,gT_esc_all,Array.toArray_toList]
 ·obtain ⟨e1,e2,e3⟩:=h1; simp only at e1 e2 e3; subst e1 e3
  rcases e2 with rfl | rfl
  ·show guess (Lib.formatBool false) = _
   rw [fmtFalse]; rfl
  ·show guess (Lib.formatBool true) = _
   rw [fmtTrue]; rfl
theorem refP_parseP (L : List UInt8) : refP L = parseP L:=by
 cases h : parseP L with
 | some v=>
  obtain ⟨hr,hp⟩:=parse_sound h
  have hg : guess L = v:=by rw [← hp]; exact guess_print v hr
  rw [refP,hg,if_pos ⟨hr,hp⟩]
 | none=>
  rw [refP,if_neg (fun h'=>parse_none h _ h'.1 h'.2)]
end Go.Proofs.YtimoefagohifaaaGreatDoor
namespace Go.Proofs.YtimoefagohifaaaGreatDoor
open Go.RowKit Go.Sort
theorem tokenR_text (r t : Bytes) (ht : r.takeWhile (· != 39) = t) : tokenR (39 :: r) = if t.length = r.length then .error 382 else match parseP (39 :: (t ++ [39])) with
  | some v=>if v.k = 2 then .ok (⟨4,0,v.s.data.toList,0⟩,t.length + 2) else .error 382
  | none=>.error 382:=by
 unfold tokenR
 simp only [show lowB 39 = false from rfl,show digB' 39 = false from rfl,Bool.false_eq_true,if_false,if_true]
 rw [toQuote_run,ht]
 by_cases h : t.length = r.length
 ·rw [if_pos h,if_pos h]
 ·rw [if_neg h,if_neg h]
  rfl
theorem ne39 {c : UInt8} : ((c.toNat : Int) != 39) = (c != 39):=by
 unfold bne
 rw [show ((c.toNat : Int) == 39) = (c == 39) from ?_]
 rw [Bool.eq_iff_iff,beq_iff_eq,beq_iff_eq,← UInt8.toNat_inj]
 constructor
 ·intro h; show c.toNat = 39; omega
 ·intro h; have h' : c.toNat = 39:=h; omega
set_option maxRecDepth 100000 in
set_option maxHeartbeats 8000000 in
theorem rtext_any (s : Bytes) (hs : s.length≤1000000) (p : Nat) (hp : p < s.length) (r : Bytes) (h0 : s.drop p = 39 :: r) (w : World) :
  Calls Tryz.prog 86 #[.string ⟨s.toArray⟩,.int .i64 (p : Int)] w (RdPost w p (tokenR (39 :: r))):=by
 have hr : s.drop (p + 1) = r:=by
  have:=congrArg (List.drop 1) h0
  simpa [List.drop_drop] using this
 obtain ⟨t,ht⟩ : ∃ t,(s.drop (p + 1)).takeWhile (· != 39) = t:=⟨_,rfl⟩
 have HM:=Lib.hid (tokenR_text r t (by rw [← ht,hr]))
 have HW0 : Hid (t = (s.drop (p + 1)).take 0 ++ (s.drop (p + 1 + 0)).takeWhile (· != 39)):=by show _ = _; rw [← ht]; simp
 have HRL : Hid (r.length = s.length - (p + 1)):=by show _ = _; rw [← hr]; simp
 have H0:=Lib.hid h0
 have S0:=Lib.hid (St.start w)
 clear ht hr h0
 have hsz : (⟨s.toArray⟩ : ByteArray).size = s.length:=by show s.toArray.size = _; simp
 go_enter Tryz.func86,Tryz.ntmps86
 go_wp2_with fail
 refine codeGenT (fun W=>St w W [(w.heap.size,#[.int .i64 0,.int .i64 0,.string ⟨#[]⟩,.int .i64 0,.int .i64 0,.int .i64 0],81)]) (St.alloc S0.out) ?_
 clear S0
 intro wl SL'
 have SL:=Lib.hid SL'
 clear SL'
 go_loopw [5] (fun i wr=>wr = wl∧∃ k : Nat,p + 1 + k≤s.length∧i = .int .i64 ((p + 1 + k : Nat) : Int)∧Hid (t = (s.drop (p + 1)).take k ++ (s.drop (p + 1 + k)).takeWhile (· != 39))) (fun i _=>s.length - (intOf i).toNat)
 case atStart=>exact ⟨rfl,0,by omega,by go_num,HW0.out⟩
 case round=>
  clear HW0
  obtain ⟨rfl,k,hk,rfl,HW⟩:=hrel
  by_cases hlt : p + 1 + k < s.length
  ·obtain ⟨c,q,hu,hi,hidx⟩:=drop_at s (p + 1 + k) hlt
   have hci : (((p + 1 + k : Nat) : Int) < (s.length : Int)):=by omega
   have h39:=@ne39 c
   cases ha : c != 39 with
   | true=>
    have HW2:=Lib.hid (run_step (· != 39) s (p + 1) k t c q HW.out hu ha)
    rw [ha] at h39
    clear HW
    go_wp2_with fail
    go_roundw
    case rel=>exact ⟨by first | rfl | trivial,k + 1,by omega,by go_num,HW2.out⟩
    case measure=>simp [intOf]; omega
   | false=>
    obtain ⟨e1,e2⟩:=run_end (· != 39) s (p + 1) k t HW.out hk (fun c' r' e=>by rw [hu] at e; cases e; exact ha)
    rw [ha] at h39
    subst e2
    have hx : (⟨s.toArray⟩ : ByteArray).extract p (p + 1 + t.length + 1) = ⟨(39 :: (t ++ [39])).toArray⟩:=by
     rw [show p + 1 + t.length + 1 = p + (t.length + 2) by omega,extract_run,H0.out]
     have hc : c = 39:=by simpa using ha
     have hd : s.drop (p + 1) = r:=by
      have:=congrArg (List.drop 1) H0.out
      simpa [List.drop_drop] using this
     have hr' : r.drop t.length = 39 :: q:=by rw [← hd,List.drop_drop,hu,hc]
     have : r.take (t.length + 1) = t ++ [39]:=by
      rw [List.take_add_one,← hd,← e1,hd,show r[t.length]? = some 39 by rw [← List.head?_drop,hr']; rfl]
      rfl
     rw [List.take_succ_cons,this]
    have HR0 : Hid (tokenR (39 :: r) = match refP (39 :: (t ++ [39])) with
      | some v=>if v.k = 2 then .ok (⟨4,0,v.s.data.toList,0⟩,t.length + 2) else .error 382
      | none=>.error 382):=by
     show _ = _
     rw [HM.out,if_neg (by rw [HRL.out]; omega),refP_parseP]
    have C1:=Lib.hid (fun W=>refParse_any ⟨(39 :: (t ++ [39])).toArray⟩ W (by show (39 :: (t ++ [39])).toArray.size≤_; simp; omega))
    simp only [] at C1
    clear HW HM e1 hu H0 HRL
    go_upto_region 5 with fail
    refine St.gen (St.alloc SL.out (cs:=#[.int .i64 0,.int .i64 0,.string ⟨#[]⟩,.int .i64 0,.int .i64 ((p : Int) + 1 + (t.length : Int) + 1),.int .i64 382]) (t:=81)) ?_
    intro w2 S2
    clear SL
    go_wp2_with fail
    have he : (((p : Int) + 1 + (t.length : Int)) == (s.length : Int)) = false:=by rw [beq_eq_false_iff_ne]; omega
    cases hv : refP (39 :: (t ++ [39])) with
    | none=>
     rw [hv] at C1 HR0
     have HR : Hid (tokenR (39 :: r) = .error 382):=HR0.out
     simp only [parseRes,V.null,V.val] at C1
     refine Calls.mono (C1.out _) ?_
     rintro e w3 ⟨rfl,hb3⟩
     have S3:=Lib.hid (S2.out.kept hb3)
     clear hb3 S2 C1 HR0 hv
     go_upto_region 8 with fail
     refine St.gen (St.alloc S3.out (cs:=#[.int .i64 0,.int .i64 0,.string ⟨#[]⟩]) (t:=42)) ?_
     intro w4 S4
     clear S3
     have F4:=S4.out.facts
     simp only [St.Facts,cellFacts,apartFacts,and_true] at F4
     go_wp2_with fail
     refine bodyPost_ret (v:=.agg #[.int .i64 0,.int .i64 0,.string ⟨#[]⟩,.int .i64 0,.int .i64 ((p : Int) + 1 + (t.length : Int) + 1),.int .i64 382]) (by simp [results,Tryz.results86,go_sem,F4]) rfl ⟨_,rfl,by rw [HR.out]; exact ⟨_,_,_,_,_,rfl,by decide⟩,?_⟩
     exact (St.set 2 (St.set 2 (St.set 2 (St.set 2 (St.set 2 (St.set 2 S4.out rfl) rfl) rfl) rfl) rfl) rfl).below
    | some v=>
     obtain ⟨vk,vn,vs⟩:=v
     rw [hv] at C1 HR0
     simp only [parseRes,V.val] at C1
     refine Calls.mono (C1.out _) ?_
     rintro e w3 ⟨rfl,hb3⟩
     have S3:=Lib.hid (S2.out.kept hb3)
     clear hb3 S2 C1 hv
     go_upto_region 8 with fail
     refine St.gen (St.alloc S3.out (cs:=#[.int .i64 vk,.int .i64 vn,.string vs]) (t:=42)) ?_
     intro w4 S4
     clear S3
     by_cases h2 : vk = 2
     ·have HR : Hid (tokenR (39 :: r) = .ok (⟨4,0,vs.data.toList,0⟩,t.length + 2)):=by show _ = _; rw [HR0.out]; exact if_pos h2
      have hk2 : (vk == 2) = true:=by simpa using h2
      clear HR0 h2
      have F4:=S4.out.facts
      simp only [St.Facts,cellFacts,apartFacts,and_true] at F4
      go_upto_region 10 with fail
      refine St.gen (St.set 1 (o:=3) (v:=.int .i64 0) (St.set 1 (o:=2) (v:=.string vs) (St.set 1 (o:=1) (v:=.int .i64 p) (St.set 1 (o:=0) (v:=.int .i64 4) S4.out rfl) rfl) rfl) rfl) ?_
      intro w5 S5
      clear S4 F4
      simp only [List.set_cons_zero,List.set_cons_succ,List.setIfInBounds_toArray] at S5
      have F5:=S5.out.facts
      simp only [St.Facts,cellFacts,apartFacts,and_true] at F5
      go_wp2_with fail
      refine bodyPost_ret (v:=.agg #[.int .i64 4,.int .i64 p,.string vs,.int .i64 0,.int .i64 ((p : Int) + 1 + (t.length : Int) + 1),.int .i64 0]) (by simp [results,Tryz.results86,go_sem,F5]) rfl ⟨_,rfl,by rw [HR.out]; show _ = _; simp; omega,?_⟩
      exact (St.set 2 (St.set 2 (St.set 2 (St.set 2 (St.set 2 (St.set 2 (St.set 1 (o:=5) (v:=.int .i64 0) S5.out rfl) rfl) rfl) rfl) rfl) rfl) rfl).below
     ·have HR : Hid (tokenR (39 :: r) = .error 382):=by show _ = _; rw [HR0.out]; exact if_neg h2
      have hk2 : (vk == 2) = false:=by simpa using h2
      clear HR0 h2
      have F4:=S4.out.facts
      simp only [St.Facts,cellFacts,apartFacts,and_true] at F4
      go_wp2_with fail
      refine bodyPost_ret (v:=.agg #[.int .i64 0,.int .i64 0,.string ⟨#[]⟩,.int .i64 0,.int .i64 ((p : Int) + 1 + (t.length : Int) + 1),.int .i64 382]) (by simp [results,Tryz.results86,go_sem,F4]) rfl ⟨_,rfl,by rw [HR.out]; exact ⟨_,_,_,_,_,rfl,by decide⟩,?_⟩
      exact (St.set 2 (St.set 2 (St.set 2 (St.set 2 (St.set 2 (St.set 2 S4.out rfl) rfl) rfl) rfl) rfl) rfl).below
  ·obtain ⟨e1,e2⟩:=run_end (· != 39) s (p + 1) k t HW.out hk (fun c' r' e=>by rw [show p + 1 + k = s.length by omega] at e; simp at e)
   subst e2
   have HR : Hid (tokenR (39 :: r) = .error 382):=by show _ = _; rw [HM.out,if_pos (by rw [HRL.out]; omega)]
   have he : (((p + 1 + t.length : Nat) : Int) == (s.length : Int)) = true:=by rw [beq_iff_eq]; omega
   clear HW HM e1 H0 HRL
   go_upto_region 5 with fail
   refine St.gen (St.alloc SL.out (cs:=#[.int .i64 0,.int .i64 0,.string ⟨#[]⟩,.int .i64 0,.int .i64 ((p : Int) + 1 + (t.length : Int) + 1),.int .i64 382]) (t:=81)) ?_
   intro w2 S2
   clear SL
   have F2:=S2.out.facts
   simp only [St.Facts,cellFacts,apartFacts,and_true] at F2
   go_wp2_with fail
   refine bodyPost_ret (v:=.agg #[.int .i64 0,.int .i64 0,.string ⟨#[]⟩,.int .i64 0,.int .i64 ((p : Int) + 1 + (t.length : Int) + 1),.int .i64 382]) (by simp [results,Tryz.results86,go_sem,F2]) rfl ⟨_,rfl,by rw [HR.out]; exact ⟨_,_,_,_,_,rfl,by decide⟩,?_⟩
   exact (St.set 1 (St.set 1 (St.set 1 (St.set 1 (St.set 1 (St.set 1 S2.out rfl) rfl) rfl) rfl) rfl) rfl).below
theorem RdIs.cells {p : Nat} {x : Except Int (Tok × Nat)} {v : Value} (h : RdIs p x v) : ∃ a b c d f g,v = .agg #[.int .i64 a,.int .i64 b,.string c,.int .i64 d,.int .i64 f,.int .i64 g]:=by
 cases x with
 | ok tn=>obtain ⟨t,n⟩:=tn; exact ⟨_,_,_,_,_,_,h⟩
 | error e=>obtain ⟨a,b,c,d,f,h,_⟩:=h; exact ⟨_,_,_,_,_,_,h⟩
theorem rtoken_end {P : Prop} (h : P:=by
 rintro e w3 ⟨v,rfl,hv,hb3⟩
 obtain ⟨a,b,cc,d,f,g,rfl⟩:=hv.cells
 have S3:=Lib.hid (S2.out.kept hb3)
 have HV:=Lib.hid hv
 clear hb3 S2 hv
 have F3:=S3.out.facts
 simp only [St.Facts,cellFacts,apartFacts,and_true] at F3
 go_wp2_with fail
 refine bodyPost_ret (v:=.agg #[.int .i64 a,.int .i64 b,.string cc,.int .i64 d,.int .i64 f,.int .i64 g]) (by simp [results,Tryz.results21,go_sem,F3]) rfl ⟨_,rfl,HV.out,?_⟩
 exact (St.set 0 (St.set 0 (St.set 0 (St.set 0 (St.set 0 (St.set 0 S3.out rfl) rfl) rfl) rfl) rfl) rfl).below) : P:=h
set_option maxRecDepth 100000 in
set_option maxHeartbeats 8000000 in
theorem rtoken_any (s : Bytes) (hs : s.length≤1000000) (p : Nat) (hp : p < s.length) (w : World) :
  Calls Tryz.prog 21 #[.string ⟨s.toArray⟩,.int .i64 (p : Int)] w (RdPost w p (tokenR (s.drop p))):=by
 obtain ⟨c,r,h0,hi,hidx⟩:=drop_at s p hp
 have C82:=Lib.hid (fun W=>rlower_any c W)
 have C84:=Lib.hid (fun W=>rdig_any c W)
 have S0:=Lib.hid (St.start w)
 have hsz : (⟨s.toArray⟩ : ByteArray).size = s.length:=by show s.toArray.size = _; simp
 cases h1 : lowB c with
 | true=>
  have C1 : Hid (∀ W,Calls Tryz.prog 83 #[.string ⟨s.toArray⟩,.int .i64 (p : Int)] W (RdPost W p (tokenR (s.drop p)))):=fun W=>by
   have:=rword_any s hs p (Nat.le_of_lt hp) W
   rw [h0] at this ⊢
   rw [tokenR_wordR c r h1]
   exact this
  rw [h1] at C82
  clear h0
  go_enter Tryz.func21,Tryz.ntmps21
  go_wp2_with fail
  refine Calls.mono (C82.out _) ?_
  rintro e w2 ⟨rfl,rfl⟩
  have S2:=Lib.hid (St.alloc S0.out (cs:=#[.int .i64 0,.int .i64 0,.string ⟨#[]⟩,.int .i64 0,.int .i64 0,.int .i64 0]) (t:=81))
  clear S0
  go_wp2_with fail
  refine Calls.mono (C1.out _) ?_
  exact rtoken_end
 | false=>
  rw [h1] at C82
  cases h2 : digB' c with
  | true=>
   have C1 : Hid (∀ W,Calls Tryz.prog 85 #[.string ⟨s.toArray⟩,.int .i64 (p : Int)] W (RdPost W p (tokenR (s.drop p)))):=fun W=>by
    have:=rnumber_any s hs p hp W
    rw [h0] at this ⊢
    rw [tokenR_num c r h1 h2]
    exact this
   rw [h2] at C84
   clear h0
   go_enter Tryz.func21,Tryz.ntmps21
   go_wp2_with fail
   refine Calls.mono (C82.out _) ?_
   rintro e w2 ⟨rfl,rfl⟩
   go_wp2_with fail
   refine Calls.mono (C84.out _) ?_
   rintro e w2 ⟨rfl,rfl⟩
   have S2:=Lib.hid (St.alloc S0.out (cs:=#[.int .i64 0,.int .i64 0,.string ⟨#[]⟩,.int .i64 0,.int .i64 0,.int .i64 0]) (t:=81))
   clear S0
   go_wp2_with fail
   refine Calls.mono (C1.out _) ?_
   exact rtoken_end
  | false=>
   rw [h2] at C84
   by_cases h3 : c = 39
   ·have C1 : Hid (∀ W,Calls Tryz.prog 86 #[.string ⟨s.toArray⟩,.int .i64 (p : Int)] W (RdPost W p (tokenR (s.drop p)))):=fun W=>by
     rw [h0,h3]
     exact rtext_any s hs p hp r (by rw [h0,h3]) W
    have h39 : ((c.toNat : Int) == 39) = true:=by rw [h3]; rfl
    clear h0 h3
    go_enter Tryz.func21,Tryz.ntmps21
    go_wp2_with fail
    refine Calls.mono (C82.out _) ?_
    rintro e w2 ⟨rfl,rfl⟩
    go_wp2_with fail
    refine Calls.mono (C84.out _) ?_
    rintro e w2 ⟨rfl,rfl⟩
    have S2:=Lib.hid (St.alloc S0.out (cs:=#[.int .i64 0,.int .i64 0,.string ⟨#[]⟩,.int .i64 0,.int .i64 0,.int .i64 0]) (t:=81))
    clear S0
    go_wp2_with fail
    refine Calls.mono (C1.out _) ?_
    exact rtoken_end
   ·have C1 : Hid (∀ W,Calls Tryz.prog 87 #[.string ⟨s.toArray⟩,.int .i64 (p : Int)] W (RdPost W p (tokenR (s.drop p)))):=fun W=>by
     have:=rsign_any s hs p hp W
     rw [h0] at this ⊢
     have e : tokenR (c :: r) = refSign (c :: r):=by
      rw [← signOf_ref c r]
      unfold tokenR
      simp only [h1,h2,h3,Bool.false_eq_true,if_false]
      rfl
     rw [e]
     exact this
    have h39 : ((c.toNat : Int) == 39) = false:=by
     rw [beq_eq_false_iff_ne]
     intro e
     exact h3 (UInt8.toNat_inj.1 (show c.toNat = 39 by omega))
    clear h0 h3
    go_enter Tryz.func21,Tryz.ntmps21
    go_wp2_with fail
    refine Calls.mono (C82.out _) ?_
    rintro e w2 ⟨rfl,rfl⟩
    go_wp2_with fail
    refine Calls.mono (C84.out _) ?_
    rintro e w2 ⟨rfl,rfl⟩
    have S2:=Lib.hid (St.alloc S0.out (cs:=#[.int .i64 0,.int .i64 0,.string ⟨#[]⟩,.int .i64 0,.int .i64 0,.int .i64 0]) (t:=81))
    clear S0
    go_wp2_with fail
    refine Calls.mono (C1.out _) ?_
    exact rtoken_end
theorem toksF_space (f p : Nat) (acc : List Tok) (c : UInt8) (r : Bytes) (h : accS c = true) : toksF (f + 1) p acc (c :: r) = toksF (f + 1) (p + 1) acc r:=by
 rw [toksF_step,toksF_step,List.takeWhile_cons,if_pos h,List.length_cons,List.drop_succ_cons,show p + ((r.takeWhile accS).length + 1) = p + 1 + (r.takeWhile accS).length by omega]
theorem toksF_tok (f p : Nat) (acc : List Tok) (c : UInt8) (r : Bytes) (h : accS c = false) : toksF (f + 1) p acc (c :: r) = match tokenR (c :: r) with
  | .error e=>.error ((p : Nat),e)
  | .ok (t,n)=>toksF f (p + n) (acc ++ [{ t with at_:=((p : Nat) : Int) }]) ((c :: r).drop n):=by
 rw [toksF_step,List.takeWhile_cons,if_neg (by rw [h]; decide),List.length_nil,List.drop_zero,Nat.add_zero]
 rfl
theorem byte_eq (c : UInt8) (n : Nat) (h : n < 256) : ((c.toNat : Int) == (n : Int)) = (c == UInt8.ofNat n):=by
 have e : (UInt8.ofNat n).toNat = n:=by simp; omega
 rw [Bool.eq_iff_iff,beq_iff_eq,beq_iff_eq,← UInt8.toNat_inj,e]
 omega
theorem rtoks_space {P : Prop} (h : P:=by
 have HM2 : Hid (y = toksF (g + 1) (pos + 1) acc (s.drop (pos + 1))):=by
  show _ = _
  rw [HM.out,hu,toksF_space _ _ _ _ _ ha,← hu1]
 clear HM hu hu1 ha
 go_wp2_with fail
 go_roundw
 case rel=>exact ⟨pos + 1,g + 1,acc,oa,oc,rfl,by go_num,by omega,(show _≤_ from Nat.le_succ_of_le HAL.out),(show _ < _ by have h1 : s.length - pos < g + 1:=HF.out; omega),HM2.out,S.out,HO.out⟩
 case measure=>simp [intOf]; omega) : P:=h
set_option maxRecDepth 100000 in
set_option maxHeartbeats 8000000 in
theorem rtokens_any (s : Bytes) (hs : s.length≤1000000) (w : World) :
  Calls Tryz.prog 10 #[.string ⟨s.toArray⟩] w (ToksPost w.heap.size w (toksR s)):=by
 have S0:=Lib.hid (St.start w)
 by_cases hbig : 4000 < s.length
 ·have hx : toksR s = .error (0,2):=by unfold toksR; rw [if_pos hbig]
  rw [hx]
  clear hx
  go_enter Tryz.func10,Tryz.ntmps10
  go_wp2_with fail
  have S1:=Lib.hid (St.alloc S0.out (cs:=#[.int .i64 0,.int .i64 2]) (t:=26))
  have F1:=S1.out.facts
  simp only [St.Facts,cellFacts,apartFacts,and_true] at F1
  refine bodyPost_ret (v:=.tuple #[.slice none 0 0,.agg #[.int .i64 0,.int .i64 2]]) (by simp [results,Tryz.results10,go_sem,F1]) rfl ⟨rfl,by decide,S1.out.below⟩
 ·have hx : toksR s = toksF (s.length + 1) 0 [] s:=by unfold toksR; rw [if_neg hbig]
  obtain ⟨y,hy⟩ : ∃ y,toksR s = y:=⟨_,rfl⟩
  rw [hy]
  have HM0 : Hid (y = toksF (s.length + 1) 0 [] (s.drop 0)):=by show _ = _; rw [← hy,hx]; rfl
  clear hx hy
  go_enter Tryz.func10,Tryz.ntmps10
  go_wp2_with fail
  have hsz : (⟨s.toArray⟩ : ByteArray).size = s.length:=by show s.toArray.size = _; simp
  have SA:=Lib.hid (St.alloc S0.out (cs:=#[.int .i64 0,.int .i64 0]) (t:=26))
  have HOA : Hid ((w.alloc (.cells #[.int .i64 0,.int .i64 0] 26)).ownsRow (w.heap.size + 1) 63 4 (.slice none 0 0) 0 []):=World.ownsRow_nil _ _ _ _
  refine codeGenT (fun W=>St w W [(w.heap.size,#[.int .i64 0,.int .i64 0],26)]∧W.ownsRow (w.heap.size + 1) 63 4 (.slice none 0 0) 0 []) ⟨SA.out,HOA.out⟩ ?_
  clear SA HOA S0
  rintro wl ⟨SL',HOL'⟩
  have SL:=Lib.hid SL'
  have HOL:=Lib.hid HOL'
  clear SL' HOL'
  go_loopw [4,5,6] (fun ov av _ wr=>∃ (pos f : Nat) (acc : List Tok) (oa : Option Addr) (oc : Nat),ov = .slice oa acc.length oc∧av = .int .i64 pos∧pos≤s.length∧Hid (acc.length≤pos)∧Hid (s.length - pos < f)∧Hid (y = toksF f pos acc (s.drop pos))∧Hid (St w wr [(w.heap.size,#[.int .i64 0,.int .i64 0],26)])∧Hid (wr.ownsRow (w.heap.size + 1) 63 4 (.slice oa acc.length oc) acc.length (tkVals acc))) (fun _ av _ _=>s.length - (intOf av).toNat)
  case atStart=>exact ⟨0,s.length + 1,[],none,0,rfl,rfl,by omega,Nat.zero_le _,by show _ < _; omega,HM0.out,SL.out,HOL.out⟩
  case round=>
   clear HM0 SL HOL
   obtain ⟨pos,f,acc,oa,oc,rfl,rfl,hp,HAL,HF,HM,S,HO⟩:=hrel
   obtain ⟨g,rfl⟩ : ∃ g,f = g + 1:=⟨f - 1,by have:=HF.out; omega⟩
   by_cases hlt : pos < s.length
   ·obtain ⟨c,r,hu,hi,hidx⟩:=drop_at s pos hlt
    have hu1 : s.drop (pos + 1) = r:=by
     have:=congrArg (List.drop 1) hu
     simpa [List.drop_drop] using this
    have hci : ((pos : Int) < (s.length : Int)):=by omega
    have b1 : ((c.toNat : Int) == 32) = (c == 32):=byte_eq c 32 (by omega)
    have b2 : ((c.toNat : Int) == 9) = (c == 9):=byte_eq c 9 (by omega)
    have b3 : ((c.toNat : Int) == 10) = (c == 10):=byte_eq c 10 (by omega)
    cases e1 : c == 32 with
    | true=>
     rw [e1] at b1
     have ha : accS c = true:=by unfold accS; rw [e1]; rfl
     clear b2 b3
     exact rtoks_space
    | false=>
     rw [e1] at b1
     cases e2 : c == 9 with
     | true=>
      rw [e2] at b2
      have ha : accS c = true:=by unfold accS; rw [e1,e2]; rfl
      clear b3
      exact rtoks_space
     | false=>
      rw [e2] at b2
      cases e3 : c == 10 with
      | true=>
       rw [e3] at b3
       have ha : accS c = true:=by unfold accS; rw [e1,e2,e3]; rfl
       exact rtoks_space
      | false=>
       rw [e3] at b3
       have ha : accS c = false:=by unfold accS; rw [e1,e2,e3]; rfl
       have HM1:=HM.out
       rw [hu,toksF_tok _ _ _ _ _ ha] at HM1
       have C2:=Lib.hid (fun W=>rtoken_any s hs pos hlt W)
       rw [hu] at C2
       have HM2:=Lib.hid HM1
       have hrl : (c :: r).length = s.length - pos:=by rw [← hu]; simp
       clear HM HM1 e1 e2 e3 ha hu1
       cases htk : tokenR (c :: r) with
       | error x=>
        rw [htk] at C2 HM2
        have HR : Hid (y = .error ((pos : Nat),x)):=HM2.out
        have hx0 : x ≠ 0:=by have:=tokenR_err htk; omega
        have hxb : (x != 0) = true:=by simpa using hx0
        clear HM2 htk hu
        go_wp2_with fail
        refine Calls.mono (C2.out _) ?_
        rintro e w3 ⟨v,rfl,⟨a,b,cc,d,f,rfl,_⟩,hb3⟩
        refine St.call (S.out) hb3 ?_
        intro S3
        clear hb3
        try (simp only [List.set_cons_zero,List.set_cons_succ,List.setIfInBounds_toArray,World.size_alloc] at S3)
        clear C2 S HO
        go_upto_region 9 with fail
        refine St.gen (St.alloc S3.out (cs:=#[.int .i64 a,.int .i64 b,.string cc,.int .i64 d,.int .i64 f,.int .i64 x]) (t:=81)) ?_
        intro w4 S4
        clear S3
        have F4:=S4.out.facts
        simp only [St.Facts,cellFacts,apartFacts,and_true] at F4
        go_upto_region 10 with fail
        clear F4
        have F4:=S4.out.factsG
        simp only [St.FactsG,cellFactsG,and_true] at F4
        refine wp_region_mixed 5 [(0,false),(1,false),(2,false),(3,false),(4,false)] (by kernel_rfl) (by kernel_rfl) ?_
        repeat (refine wpM_mild rfl (fun K hK=>?_); go_simp; first | (refine hK _ ?_; clear hK K) | (apply Exists.intro; refine ⟨fun _=>?_,hK _ ?_⟩; (fail); clear hK K))
        refine wpM_tail ?_
        intro w5 hb5 _
        have S5:=Lib.hid (S4.out.kept hb5)
        clear hb5 S4 F4
        have F5:=S5.out.facts
        simp only [St.Facts,cellFacts,apartFacts,and_true] at F5
        simp only [List.drop_succ_cons,List.drop_zero]
        go_wp2_with fail
        refine bodyPost_ret (v:=.tuple #[.slice none 0 0,.agg #[.int .i64 pos,.int .i64 x]]) (by simp [results,Tryz.results10,go_sem,F5]) rfl ?_
        rw [HR.out]
        exact ⟨rfl,hx0,(St.set 1 (St.set 1 S5.out rfl) rfl).below⟩
       | ok tn=>
        obtain ⟨t,n⟩:=tn
        rw [htk] at C2 HM2
        obtain ⟨⟨hn1,hn2⟩,hat⟩:=tokenR_ok htk
        obtain ⟨tk,ta,ts,tnn⟩:=t
        have HR : Hid (y = toksF g (pos + n) (acc ++ [⟨tk,((pos : Nat) : Int),ts,tnn⟩]) (s.drop (pos + n))):=by
         show _ = _
         rw [HM2.out,← List.drop_drop,hu]
        have hle : pos + n≤s.length:=by omega
        clear HM2 htk hu hat hn2 hrl
        go_wp2_with fail
        refine Calls.mono (C2.out _) ?_
        rintro e w3 ⟨v,rfl,hv,hb3⟩
        have hv' : v = .agg #[.int .i64 tk,.int .i64 (pos : Int),.string ⟨ts.toArray⟩,.int .i64 tnn,.int .i64 ((pos : Int) + (n : Int)),.int .i64 0]:=hv
        subst hv'
        have HO3:=Lib.hid (HO.out.later hb3)
        refine St.call (S.out) hb3 ?_
        intro S3
        clear hb3
        try (simp only [List.set_cons_zero,List.set_cons_succ,List.setIfInBounds_toArray,World.size_alloc] at S3)
        clear C2 S HO hv
        have HLT : Hid (∀ k,(.slice oa acc.length oc : Value).ownBlock = some k→w.heap.size + 1≤k∧k < w3.heap.size):=fun k hk=>World.ownsRow.lt HO3.out k hk
        go_upto_region 9 with fail
        refine codeGenT (fun W=>St w W [(w3.heap.size,#[.int .i64 tk,.int .i64 (pos : Int),.string ⟨ts.toArray⟩,.int .i64 tnn,.int .i64 ((pos : Int) + (n : Int)),.int .i64 0],81),(w.heap.size,#[.int .i64 0,.int .i64 0],26)]∧W.ownsRow (w.heap.size + 1) 63 4 (.slice oa acc.length oc) acc.length (tkVals acc)) ⟨St.alloc S3.out,HO3.out.later ((Below.refl _ _).alloc (Nat.le_refl _) _)⟩ ?_
        rintro w4 ⟨S4',HO4'⟩
        have S4:=Lib.hid S4'
        have HO4:=Lib.hid HO4'
        clear S4' HO4' S3 HO3
        generalize w3.heap.size = b6 at *
        have F4:=S4.out.facts
        simp only [St.Facts,cellFacts,apartFacts,and_true] at F4
        have hbs : w.heap.size < w4.heap.size:=(Array.getElem?_eq_some_iff.1 (S4.out.blk 1 rfl)).1
        go_wp2_with (at_builtin; go_must (refine wpList_append_newk rfl _ _ 23 rfl 63 (.agg #[.int .i64 0,.int .i64 0,.string ⟨#[]⟩,.int .i64 0]) 4 40 Tryz.underlying23 info63 rfl (by decide) (w.heap.size + 1) (.slice oa acc.length oc) acc.length (tkVals acc) rfl HO4.out #[.int .i64 tk,.int .i64 (pos : Int),.string ⟨ts.toArray⟩,.int .i64 tnn] 1 w4.heap.size rfl rfl (by simp) (by simp [Value.oneCell']) (by have:=HAL.out; omega) (by have:=HAL.out; simp [maxLen]; omega) (by omega) ?_))
        intro v5 w5 hown5 hg5
        have S5:=Lib.hid (S4.out.turned (Turn.of_grown hg5) (fun i h=>by have:=(HLT.out i h).1; omega) (fun x hx h=>by
         simp only [List.mem_cons,List.not_mem_nil,or_false] at hx
         rcases hx with rfl | rfl
         ·have:=(HLT.out _ h).2; omega
         ·have:=(HLT.out _ h).1; omega))
        have e3 : tkVals (acc ++ [⟨tk,(pos : Int),ts,tnn⟩]) = tkVals acc ++ [.int .i64 tk,.int .i64 (pos : Int),.string ⟨ts.toArray⟩,.int .i64 tnn]:=by simp [tkVals,Tok.cells]
        have e4 : (acc ++ [(⟨tk,(pos : Int),ts,tnn⟩ : Tok)]).length = acc.length + 1:=by simp
        obtain ⟨a5,c5,rfl,_⟩:=hown5.slAt
        have HO5:=Lib.hid hown5
        have E3:=Lib.hid e3
        have E4:=Lib.hid e4
        have HLE:=Lib.hid hle
        clear hown5 hg5 S4 HO4 F4 e3 e4 hle b1 b2 b3 hidx
        have F5:=S5.out.facts
        simp only [St.Facts,cellFacts,apartFacts,and_true] at F5
        go_wp2_with fail
        go_roundw
        case rel=>exact ⟨pos + n,g,acc ++ [(⟨tk,(pos : Int),ts,tnn⟩ : Tok)],a5,c5,congrArg (fun z=>Value.slice a5 z c5) E4.out.symm,by go_num,HLE.out,(show _≤_ by rw [E4.out]; have:=HAL.out; omega),(show _ < _ by have h1 : s.length - pos < g + 1:=HF.out; omega),HR.out,St.tail S5.out,by show World.ownsRow _ _ _ _ _ _ _; rw [E3.out,E4.out]; exact HO5.out⟩
        case measure=>simp [intOf]; omega
   ·obtain rfl : pos = s.length:=by omega
    have HR : Hid (y = .ok acc):=by show _ = _; rw [HM.out,List.drop_length]; rfl
    have S2:=S
    clear S HM
    have F2:=S2.out.facts
    simp only [St.Facts,cellFacts,apartFacts,and_true] at F2
    go_wp2_with fail
    refine bodyPost_ret (v:=.tuple #[.slice oa acc.length oc,.agg #[.int .i64 0,.int .i64 0]]) (by simp [results,Tryz.results10,go_sem,F2]) rfl ?_
    rw [HR.out]
    refine ⟨_,rfl,SlIn.mono (Q:=(w.heap.size + 1≤·)) (World.ownsRow.slIn (HO.out.same (fun k hk=>?_))) (fun b hb=>Nat.le_of_succ_le hb),(St.set 0 (St.set 0 S2.out rfl) rfl).below⟩
    have:=(World.ownsRow.lt HO.out k hk).1
    rw [Below.heap_setCell _ _ _ _ (by show k ≠ w.heap.size; omega),Below.heap_setCell _ _ _ _ (by show k ≠ w.heap.size; omega)]
theorem tkVals_at : ∀ (l : List Tok) (k : Nat) (t : Tok),l[k]? = some t→∀ j u,t.cells[j]? = some u→(tkVals l)[k * 4 + j]? = some u
 | [],k,t,h=>by cases h
 | a :: l,0,t,h=>by
  intro j u hu
  obtain rfl : a = t:=by simpa using h
  have hj:=(List.getElem?_eq_some_iff.1 hu).1
  rw [Nat.zero_mul,Nat.zero_add]
  show (a.cells ++ tkVals l)[j]? = _
  rw [List.getElem?_append_left hj]; exact hu
 | a :: l,k + 1,t,h=>by
  intro j u hu
  have ih:=tkVals_at l k t (by simpa using h) j u hu
  show (a.cells ++ tkVals l)[(k + 1) * 4 + j]? = _
  have ha : a.cells.length = 4:=rfl
  rw [List.getElem?_append_right (by omega),ha,show (k + 1) * 4 + j - 4 = k * 4 + j by omega]
  exact ih
set_option maxRecDepth 100000 in
set_option maxHeartbeats 8000000 in
theorem sameTokens_any (l : List Tok) (v1 v2 : Value) (w : World) (h1 : SlAt w v1 l.length (tkVals l)) (h2 : SlAt w v2 l.length (tkVals l)) (hl : l.length≤1000000) :
  Calls Tryz.prog 11 #[v1,v2] w fun e w'=>e = .returned (.bool true)∧Below w.heap.size w w':=by
 obtain ⟨a1,c1,rfl,hc1,h1⟩:=h1
 obtain ⟨a2,c2,rfl,hc2,h2⟩:=h2
 have H1:=Lib.hid h1
 have H2:=Lib.hid h2
 clear h1 h2
 go_enter Tryz.func11,Tryz.ntmps11
 go_wp2_with fail
 go_loopw [5] (fun i wr=>∃ k : Nat,k≤l.length∧i = .int .i64 k∧Hid (Below w.heap.size w wr)) (fun i _=>l.length - (intOf i).toNat)
 case atStart=>exact ⟨0,by omega,rfl,Below.refl _ _⟩
 case round=>
  obtain ⟨k,hk,rfl,HB⟩:=hrel
  by_cases hlt : k < l.length
  ·obtain ⟨b1,o1,rfl,k1⟩:=H1.out (by omega)
   obtain ⟨b2,o2,rfl,k2⟩:=H2.out (by omega)
   obtain ⟨t,ht⟩ : ∃ t,l[k]? = some t:=⟨l[k],by simp [hlt]⟩
   have hv:=tkVals_at l k t ht
   obtain ⟨tk,ta,ts,tn⟩:=t
   have x (j u) (hu : (Tok.cells ⟨tk,ta,ts,tn⟩)[j]? = some u) : wr.cell? ⟨b1,o1 + (k * 4 + j),none⟩ = some u:=HB.out.cell_kept (k1 _ _ (hv j u hu))
   have y (j u) (hu : (Tok.cells ⟨tk,ta,ts,tn⟩)[j]? = some u) : wr.cell? ⟨b2,o2 + (k * 4 + j),none⟩ = some u:=HB.out.cell_kept (k2 _ _ (hv j u hu))
   have x0:=cell_regrown (x 0 _ rfl)
   have x1:=cell_regrown (x 1 _ rfl)
   have x2:=cell_regrown (x 2 _ rfl)
   have x3:=cell_regrown (x 3 _ rfl)
   have y0:=cell_regrown (y 0 _ rfl)
   have y1:=cell_regrown (y 1 _ rfl)
   have y2:=cell_regrown (y 2 _ rfl)
   have y3:=cell_regrown (y 3 _ rfl)
   simp only [Nat.add_zero,← Nat.add_assoc] at x0 x1 x2 x3 y0 y1 y2 y3
   have hki : (k : Int) < (l.length : Int):=by omega
   clear x y hv ht k1 k2
   go_wp2_with fail
   refine wp_region_mixed 9 [(0,false),(1,false),(2,false),(3,false),(4,false),(5,false),(6,false),(7,false),(8,false)] (by kernel_rfl) (by kernel_rfl) ?_
   repeat (refine wpM_mild rfl (fun K hK=>?_); go_simp; first | (refine hK _ ?_; clear hK K) | (apply Exists.intro; refine ⟨fun _=>?_,hK _ ?_⟩; (fail); clear hK K))
   refine wpM_end ?_
   intro w3 hb3 _
   have HB3:=Lib.hid (HB.out.step hb3)
   clear hb3 x0 x1 x2 x3 y0 y1 y2 y3 HB
   go_wp2_with fail
   go_roundw
   case rel=>exact ⟨k + 1,by omega,by go_num,HB3.out⟩
   case measure=>simp [intOf]; omega
  ·obtain rfl : k = l.length:=by omega
   go_wp2_with fail
   go_returns
   exact ⟨rfl,HB.out⟩
def SanityAt : Prop:=∀ (B : Nat) (W : World),Env B W→Calls Tryz.prog 8 #[] W (fun e w'=>e = .returned (.bool true)∧Below W.heap.size W w')
set_option maxRecDepth 100000 in
set_option maxHeartbeats 8000000 in
theorem law3_of (HS : SanityAt) {B : Nat} (s : Bytes) (w : World) (he : Env B w) :
  Calls Tryz.prog 3 #[.string ⟨s.toArray⟩] w (fun e w'=>e = .returned (.bool true)∧Below w.heap.size w w'):=by
 have HE:=Lib.hid he
 have C8:=Lib.hid HS
 have hsz : (⟨s.toArray⟩ : ByteArray).size = s.length:=by show s.toArray.size = _; simp
 have S0:=Lib.hid (St.start w)
 clear he HS
 go_enter Tryz.func3,Tryz.ntmps3
 go_wp2_with fail
 refine Calls.mono (C8.out B w HE.out) ?_
 rintro e w1 ⟨rfl,hb1⟩
 have S1:=Lib.hid (S0.out.kept hb1)
 clear hb1 S0
 by_cases hlen : 4100 < s.length
 ·go_wp2_with fail
  go_returns
  exact ⟨rfl,S1.out.below⟩
 ·have CT:=Lib.hid (fun W (h : Env B W)=>tokens_any s (by omega) W h)
  have CR:=Lib.hid (fun W=>rtokens_any s (by omega) W)
  have hl : Hid (∀ l,toksR s = .ok l→l.length≤1000000):=fun l h=>by
   have:=toksR_fine h
   omega
  cases hx : toksR s with
  | error pq=>
   obtain ⟨p,q⟩:=pq
   rw [hx] at CT CR
   clear hl hx
   go_wp2_with fail
   refine Calls.mono (CT.out _ (HE.out.kept S1.out.below)) ?_
   rintro e w2 ⟨rfl,_,hb2⟩
   have S2:=Lib.hid (S1.out.kept hb2)
   clear hb2 S1
   go_wp2_with fail
   refine Calls.mono (CR.out _) ?_
   rintro e w3 ⟨rfl,_,hb3⟩
   have S3:=Lib.hid ((St.alloc S2.out (cs:=#[.int .i64 p,.int .i64 q]) (t:=26)).kept hb3)
   clear hb3 S2
   go_wp2_with fail
   refine Calls.mono (sameTokens_any [] _ _ _ ⟨none,0,rfl,Nat.le_refl _,fun h=>absurd h (by simp)⟩ ⟨none,0,rfl,Nat.le_refl _,fun h=>absurd h (by simp)⟩ (by simp)) ?_
   rintro e w4 ⟨rfl,hb4⟩
   have S4:=Lib.hid ((St.alloc S3.out (cs:=#[.int .i64 p,.int .i64 q]) (t:=26)).kept hb4)
   clear hb4 S3
   have F4:=S4.out.facts
   simp only [St.Facts,cellFacts,apartFacts,and_true] at F4
   go_wp2_with fail
   go_returns
   exact ⟨rfl,S4.out.below⟩
  | ok l=>
   rw [hx] at CT CR
   have HL:=Lib.hid (hl.out l hx)
   clear hl hx
   go_wp2_with fail
   refine Calls.mono (CT.out _ (HE.out.kept S1.out.below)) ?_
   rintro e w2 ⟨v,rfl,hv,hb2⟩
   have S2:=Lib.hid (S1.out.kept hb2)
   have HV:=Lib.hid hv.slAt
   clear hb2 S1 hv
   go_wp2_with fail
   refine Calls.mono (CR.out _) ?_
   rintro e w3 ⟨v',rfl,hv',hb3⟩
   have HV1 : Hid (SlAt w3 v l.length (tkVals l)):=(HV.out.kept ((Below.refl _ _).alloc (Nat.le_refl _) _)).kept hb3
   have HV2:=Lib.hid hv'.slAt
   have S3:=Lib.hid ((St.alloc S2.out (cs:=#[.int .i64 0,.int .i64 0]) (t:=26)).kept hb3)
   clear hb3 S2 HV hv'
   go_wp2_with fail
   refine Calls.mono (sameTokens_any l _ _ _ (HV1.out.kept ((Below.refl _ _).alloc (Nat.le_refl _) _)) (HV2.out.kept ((Below.refl _ _).alloc (Nat.le_refl _) _)) HL.out) ?_
   rintro e w4 ⟨rfl,hb4⟩
   have S4:=Lib.hid ((St.alloc S3.out (cs:=#[.int .i64 0,.int .i64 0]) (t:=26)).kept hb4)
   clear hb4 S3 HV1 HV2
   have F4:=S4.out.facts
   simp only [St.Facts,cellFacts,apartFacts,and_true] at F4
   go_wp2_with fail
   go_returns
   exact ⟨rfl,S4.out.below⟩
end Go.Proofs.YtimoefagohifaaaGreatDoor
