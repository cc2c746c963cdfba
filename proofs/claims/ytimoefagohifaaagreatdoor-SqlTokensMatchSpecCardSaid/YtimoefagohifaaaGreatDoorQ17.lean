/-
  Part 17 of the texts of one proof, made small by a program: see the last part for what is proved. No condition.
-/
import Derived.Test.YtimoefagohifaaaGreatDoorQ10
import Derived.Test.YtimoefagohifaaaGreatDoorQ16
namespace Go.Proofs.YtimoefagohifaaaGreatDoor
open Go.RowKit Go.Sort
theorem results_cell_row2 {P : Program} {fn : Func} {p q : Tmp} {ty uy : TypeId} (h : fn.results = #[.cell p ty,.cell q uy]) (tmps : Array Value) (w : World) (g b : Nat) (x y : Value)
  (hp : tmps.getD p undef = .pointer (some ⟨g,0,none⟩)) (hq : tmps.getD q undef = .pointer (some ⟨b,0,none⟩)) (h1 : (loadVar ty ⟨g,0,none⟩).run P w = .ok x w) (h2 : (loadVar uy ⟨b,0,none⟩).run P w = .ok y w) :
  (results fn tmps).run P w = .ok (.tuple #[x,y]) w:=by
 have hp' : tmps[p]?.getD undef = .pointer (some ⟨g,0,none⟩):=by simpa using hp
 have hq' : tmps[q]?.getD undef = .pointer (some ⟨b,0,none⟩):=by simpa using hq
 simp [results,h,hp',hq',asAddr,h1,h2]
theorem size26 (a b : Value) : (Tryz.prog.info? 26).map (·.size) = some (#[a,b] : Array Value).size:=by
 have : (Tryz.prog.info? 26).map (·.size) = some 2:=by kernel_rfl
 rw [this]; rfl
def ParsePost (w : World) (x : Except (Int × Int) Stm) (e : Ending) (w' : World) : Prop:=match x with
 | .ok x=>∃ sv : SV,e = .returned (.tuple #[.agg sv.arr,.agg #[.int .i64 0,.int .i64 0]])∧StmIs (w.heap.size≤·) w' sv x∧Below w.heap.size w w'
 | .error (p,q)=>e = .returned (.tuple #[.agg (SV.arr {}),.agg #[.int .i64 p,.int .i64 q]])∧Below w.heap.size w w'
set_option maxRecDepth 100000 in
set_option maxHeartbeats 4000000 in
theorem parse_bad {B : Nat} (s : Bytes) (hs : s.length≤1000000) (p q : Int) (hx : toksR s = .error (p,q)) (w : World) (he : Env B w) :
  Calls Tryz.prog 15 #[.string ⟨s.toArray⟩] w (ParsePost w (parseS s)):=by
 have hps : parseS s = .error (p,q):=by unfold parseS; rw [hx]
 rw [hps]
 have SZ : Hid (St w ((w.alloc (.cells (SV.arr {}) 50)).alloc (.cells #[.int .i64 0,.int .i64 0] 26)) [(w.heap.size + 1,#[.int .i64 0,.int .i64 0],26),(w.heap.size,SV.arr {},50)]):=by
  show St _ _ _
  have:=St.alloc (St.alloc (St.start w) (cs:=SV.arr {}) (t:=50)) (cs:=#[.int .i64 0,.int .i64 0]) (t:=26)
  simpa only [World.size_alloc] using this
 have HE:=Lib.hid he
 have C1:=Lib.hid (fun W (h : Env B W)=>tokens_any s hs W h)
 rw [hx] at C1
 clear hps hx he
 go_enter_defers Tryz.func15,Tryz.ntmps15
 go_wp2_with fail
 refine Calls.mono (C1.out _ (HE.out.kept SZ.out.below)) ?_
 rintro e w1 ⟨rfl,hq0,hb1⟩
 have S1:=Lib.hid (SZ.out.kept hb1)
 clear hb1 SZ C1
 have hqb : (q != 0) = true:=by simpa using hq0
 have F1:=cellFacts_of (S1.out.blk 0 rfl) [.int .i64 0,.int .i64 0] 0 (fun j=>by simp)
 simp only [cellFacts,and_true] at F1
 go_wp2_with fail
 refine codeGenT (fun W=>St w W [(w.heap.size + 1,#[.int .i64 p,.int .i64 q],26),(w.heap.size,SV.arr {},50)]) (St.set 0 (o:=1) (v:=.int .i64 q) (St.set 0 (o:=0) (v:=.int .i64 p) S1.out rfl) rfl) ?_
 clear S1 F1
 intro w2 S2'
 have S2:=Lib.hid S2'
 clear S2'
 have h20:=S2.out.blk 0 rfl
 have y0 : ∀ r : TurnW (fun k=>k = w.heap.size) w2,r.w.cell? ⟨w.heap.size + 1,0,none⟩ = some (.int .i64 p):=fun r=>turnW_cell r (by simp only [World.cell?,h20]; rfl) (by show ¬ w.heap.size + 1 = w.heap.size; omega)
 have y1 : ∀ r : TurnW (fun k=>k = w.heap.size) w2,r.w.cell? ⟨w.heap.size + 1,1,none⟩ = some (.int .i64 q):=fun r=>turnW_cell r (by simp only [World.cell?,h20]; rfl) (by show ¬ w.heap.size + 1 = w.heap.size; omega)
 clear h20
 refine wp_region_mixedT (fun k=>k = w.heap.size) 3 [(0,false),(1,false),(2,true)] (by kernel_rfl) (by kernel_rfl) ?_
 repeat (refine wpM_mildT rfl (fun K hK=>?_); go_simp; first | (refine hK _ ?_; clear hK K) | (apply Exists.intro; refine ⟨fun _=>?_,hK _ ?_⟩; (fail); clear hK K))
 refine wpM_effT rfl ?_
 intro w7 hb7 ht7
 have S7:=Lib.hid (S2.out.kept hb7)
 have h71:=S7.out.blk 1 rfl
 refine wpList_store_row rfl 50 (.tmp 2) (.tmp 14) rfl w.heap.size (SV.arr {}) rfl rfl 50 (SV.arr {}) h71 (sv_size _) rfl (sv_one _) ?_
 refine ⟨ht7.setRow (.inl rfl),wpM_tailT ?_⟩
 intro w9 hb9 _
 have S9:=Lib.hid ((St.row 1 (SV.arr {}) S7.out rfl).kept hb9)
 simp only [List.set_cons_zero,List.set_cons_succ] at S9
 have F9:=cellFacts_of (S9.out.blk 0 rfl) [.int .i64 p,.int .i64 q] 0 (fun j=>by simp)
 simp only [cellFacts,and_true] at F9
 clear y0 y1 hb7 ht7 h71 S7 hb9 S2
 simp only [List.drop_succ_cons,List.drop_zero]
 go_wp2_with fail
 have S10 : St w ((w9.setCell ⟨w.heap.size + 1,0,none⟩ (.int .i64 p)).setCell ⟨w.heap.size + 1,1,none⟩ (.int .i64 q)) [(w.heap.size + 1,#[.int .i64 p,.int .i64 q],26),(w.heap.size,SV.arr {},50)]:=St.set 0 (o:=1) (v:=.int .i64 q) (St.set 0 (o:=0) (v:=.int .i64 p) S9.out rfl) rfl
 have hl:=run_loadVar_row (P:=Tryz.prog) _ w.heap.size 50 50 (SV.arr {}) (0,0) _ (S10.blk 1 rfl) Tryz.underlying50 rfl (sv_size _)
 have hl2:=run_loadVar_row (P:=Tryz.prog) _ (w.heap.size + 1) 26 26 #[.int .i64 p,.int .i64 q] (0,0) _ (S10.blk 0 rfl) Tryz.underlying26 rfl (size26 _ _)
 exact ⟨.tuple #[.agg (SV.arr {}),.agg #[.int .i64 p,.int .i64 q]],results_cell_row2 Tryz.results15 _ _ w.heap.size (w.heap.size + 1) _ _ rfl rfl hl hl2,rfl,S10.below⟩
set_option maxRecDepth 100000 in
set_option maxHeartbeats 4000000 in
theorem notFormed_any (Q : Nat→Prop) (a : Ex) (cs : List Value) (w : World) (h : ExIn Q w a cs) (IH : Hid (∀ (cs : List Value) (W : World),ExIn Q W a cs→Calls Tryz.prog 116 #[.agg cs.toArray] W (Says (.bool a.formed) W))) :
  Calls Tryz.prog 179 #[.agg cs.toArray] w (Says (.bool (!a.formed)) w):=by
 generalize a.formed = b at *
 have HI:=Lib.hid h
 have hin:=h
 obtain ⟨op,t,n,v,args⟩:=a
 obtain ⟨ad0,acs,rfl,⟨ad,ac,rfl,_⟩,_⟩:=hin
 have HX:=Lib.hid (IH.out _ _ (HI.out.kept ((Below.refl _ w).alloc (Nat.le_refl _) (.cells #[.int .i64 op,.string ⟨t.toArray⟩,.string ⟨n.toArray⟩,.int .i64 v.k,.int .i64 v.n,.string v.s,.slice ad args.length ac] 44))))
 clear h IH HI
 show Calls Tryz.prog 179 #[.agg #[.int .i64 op,.string ⟨t.toArray⟩,.string ⟨n.toArray⟩,.int .i64 v.k,.int .i64 v.n,.string v.s,.slice ad args.length ac]] w _
 go_enter Tryz.func179,Tryz.ntmps179
 go_wp2_with fail
 refine Calls.mono HX.out ?_
 rintro e w1 ⟨rfl,hb1⟩
 go_wp2_with fail
 exact bodyPost_ret (v:=.bool (!b)) (by simp [results,Tryz.results179,go_sem]) rfl ⟨rfl,((Below.refl _ _).alloc (Nat.le_refl _) _).step hb1⟩
theorem enters179 : ∀ args w,(callFunc 179 args).run Tryz.prog w = .ok (.enter 179 args) w:=enters_of Tryz.func179 (by kernel_rfl) rfl
set_option maxRecDepth 100000 in
set_option maxHeartbeats 4000000 in
theorem formed_out {w : World} {t n : Bytes} {v : V} {args : List Ex} {ad : Option Addr} {ac : Nat} {op : Int} (ho : op < 1∨15 < op) (hw : v.Wf) (hnt : n.length + t.length≤4611686018427387904)
  (_HC0 : Hid (args.length≤1000000→∀ W,Below w.heap.size w W→Calls Tryz.prog 113 #[.slice ad args.length ac,.func (.func 179) #[] #[]] W (Says (.bool (args.any fun a=>!a.formed)) W))) :
  Calls Tryz.prog 116 #[.agg #[.int .i64 op,.string ⟨t.toArray⟩,.string ⟨n.toArray⟩,.int .i64 v.k,.int .i64 v.n,.string v.s,.slice ad args.length ac]] w (Says (.bool (Ex.mk op t n v args).formed) w):=by
 have HE:=Lib.hid (formed_eq op t n v args)
 have HN:=Lib.hid (any_not Ex.formed args)
 have C1:=Lib.hid (fun W=>isValue_any v hw W)
 have C2:=Lib.hid (fun W=>schemaName_all n W)
 have C3:=Lib.hid (fun W=>schemaName_all t W)
 obtain ⟨y,hy⟩ : ∃ y,(Ex.mk op t n v args).formed = y:=⟨_,rfl⟩
 rw [hy] at HE ⊢
 have HZ : Hid (¬ 9223372036854775807 < n.length + t.length):=by show ¬ _; omega
 clear hy hw hnt
 have S0 : Hid (St w (w.alloc (.cells #[.int .i64 op,.string ⟨t.toArray⟩,.string ⟨n.toArray⟩,.int .i64 v.k,.int .i64 v.n,.string v.s,.slice ad args.length ac] 44)) [(w.heap.size,#[.int .i64 op,.string ⟨t.toArray⟩,.string ⟨n.toArray⟩,.int .i64 v.k,.int .i64 v.n,.string v.s,.slice ad args.length ac],44)]):=St.alloc (St.start w)
 have HR : Hid (y = false):=by show _ = _; rw [HE.out,if_pos (by rcases ho with h | h; exact .inl h; exact .inr (.inl h))]
 clear HE HN _HC0 C1 C2 C3 HZ
 have k1 : (op == 1) = false:=by simp; omega
 rcases ho with ho | ho
 all_goals
  go_enter Tryz.func116,Tryz.ntmps116
  go_wp2_with fail
  have y0 : ∀ (d : Nat) (os : Array Obj),(grow (redrawn (w.alloc (.cells #[.int .i64 op,.string ⟨t.toArray⟩,.string ⟨n.toArray⟩,.int .i64 v.k,.int .i64 v.n,.string v.s,.slice ad args.length ac] 44)) d) os).cell? ⟨w.heap.size,0,none⟩ = some (.int .i64 op):=fun d os=>(below_regrown _ d os).cell_kept (by simp only [World.cell?,World.alloc_heap_new]; rfl)
  refine wp_region_mixed 5 [(0,false),(1,false),(2,false),(3,false),(4,false)] (by kernel_rfl) (by kernel_rfl) ?_
  repeat (refine wpM_mild rfl (fun K hK=>?_); go_simp; first | (refine hK _ ?_; clear hK K) | (apply Exists.intro; refine ⟨fun _=>?_,hK _ ?_⟩; (fail); clear hK K))
  refine wpM_end ?_
  intro w1 hb1 _
  have S1:=Lib.hid (S0.out.kept hb1)
  clear y0 hb1 S0
  have F1:=S1.out.facts
  simp only [St.Facts,cellFacts,apartFacts,and_true] at F1
  go_wp2_with fail
  all_goals go_returns
  all_goals exact ⟨by rw [HR.out]; rfl,S1.out.below⟩
set_option maxRecDepth 100000 in
set_option maxHeartbeats 4000000 in
theorem formed_1 {w : World} {t n : Bytes} {v : V} {args : List Ex} {ad : Option Addr} {ac : Nat} (hw : v.Wf) (hnt : n.length + t.length≤4611686018427387904)
  (HC0 : Hid (args.length≤1000000→∀ W,Below w.heap.size w W→Calls Tryz.prog 113 #[.slice ad args.length ac,.func (.func 179) #[] #[]] W (Says (.bool (args.any fun a=>!a.formed)) W))) :
  Calls Tryz.prog 116 #[.agg #[.int .i64 1,.string ⟨t.toArray⟩,.string ⟨n.toArray⟩,.int .i64 v.k,.int .i64 v.n,.string v.s,.slice ad args.length ac]] w (Says (.bool (Ex.mk 1 t n v args).formed) w):=by
 have HE:=Lib.hid (formed_eq 1 t n v args)
 have HN:=Lib.hid (any_not Ex.formed args)
 have C1:=Lib.hid (fun W=>isValue_any v hw W)
 have C2:=Lib.hid (fun W=>schemaName_all n W)
 have C3:=Lib.hid (fun W=>schemaName_all t W)
 obtain ⟨y,hy⟩ : ∃ y,(Ex.mk 1 t n v args).formed = y:=⟨_,rfl⟩
 rw [hy] at HE ⊢
 have HZ : Hid (¬ 9223372036854775807 < n.length + t.length):=by show ¬ _; omega
 clear hy hw hnt
 have S0 : Hid (St w (w.alloc (.cells #[.int .i64 1,.string ⟨t.toArray⟩,.string ⟨n.toArray⟩,.int .i64 v.k,.int .i64 v.n,.string v.s,.slice ad args.length ac] 44)) [(w.heap.size,#[.int .i64 1,.string ⟨t.toArray⟩,.string ⟨n.toArray⟩,.int .i64 v.k,.int .i64 v.n,.string v.s,.slice ad args.length ac],44)]):=St.alloc (St.start w)
 have har : arity 1 = 0:=by unfold arity; simp
 rw [har] at HE
 by_cases hl : args.length = 0
 ·have kl : ((args.length : Int) != 0) = false:=by simp [hl]
  have HC:=Lib.hid (HC0.out (by omega))
  clear HC0
  have kl2 : ((args.length : Int)) = 0:=by simp [hl]
  have HE2 : Hid (y = if v.right = false then false else if (1 : Int) ≠ 2∧v ≠ V.null then false else if (1 : Int) = 1 then (if isName n = false∨(t ≠ []∧isName t = false) then false else args.all Ex.formed) else (if n ++ t = [] then args.all Ex.formed else false)):=by
   show _ = _
   rw [HE.out]
   by_cases hr : v.right = false
   ·rw [if_pos (.inr (.inr (.inr hr))),if_pos hr]
   ·rw [if_neg (by rintro (h | h | h | h) <;> first | omega | exact hr h),if_neg hr]
    try rfl
  clear HE har kl2 hl
  go_enter Tryz.func116,Tryz.ntmps116
  go_wp2_with fail
  have y0 : ∀ (d : Nat) (os : Array Obj),(grow (redrawn (w.alloc (.cells #[.int .i64 1,.string ⟨t.toArray⟩,.string ⟨n.toArray⟩,.int .i64 v.k,.int .i64 v.n,.string v.s,.slice ad args.length ac] 44)) d) os).cell? ⟨w.heap.size,0,none⟩ = some (.int .i64 1):=fun d os=>(below_regrown _ d os).cell_kept (by simp only [World.cell?,World.alloc_heap_new]; rfl)
  refine wp_region_mixed 5 [(0,false),(1,false),(2,false),(3,false),(4,false)] (by kernel_rfl) (by kernel_rfl) ?_
  repeat (refine wpM_mild rfl (fun K hK=>?_); go_simp; first | (refine hK _ ?_; clear hK K) | (apply Exists.intro; refine ⟨fun _=>?_,hK _ ?_⟩; (fail); clear hK K))
  refine wpM_end ?_
  intro w1 hb1 _
  have S1:=Lib.hid (S0.out.kept hb1)
  clear y0 hb1 S0
  have F1:=S1.out.facts
  simp only [St.Facts,cellFacts,apartFacts,and_true] at F1
  go_wp2_with fail
  refine Calls.mono (C1.out _) ?_
  rintro e w2 ⟨rfl,hb2⟩
  have S2:=Lib.hid (S1.out.kept hb2)
  clear hb2 S1 F1
  have F2:=S2.out.facts
  simp only [St.Facts,cellFacts,apartFacts,and_true] at F2
  cases hr : v.right with
  | false=>
   have HR : Hid (y = false):=by show _ = _; rw [HE2.out,if_pos hr]
   clear HE2 C1 C2 C3 HC HN
   go_wp2_with fail
   go_returns
   exact ⟨by rw [HR.out]; rfl,S2.out.below⟩
  | true=>
   have HE3 : Hid (y = if (1 : Int) ≠ 2∧v ≠ V.null then false else if (1 : Int) = 1 then (if isName n = false∨(t ≠ []∧isName t = false) then false else args.all Ex.formed) else (if n ++ t = [] then args.all Ex.formed else false)):=by show _ = _; rw [HE2.out,if_neg (show ¬ v.right = false by rw [hr]; exact Bool.noConfusion)]; try simp
   clear HE2 hr C1
   by_cases hv : v = V.null
   ·have HE4 : Hid (y = if isName n = false∨(t ≠ []∧isName t = false) then false else args.all Ex.formed):=by show _ = _; rw [HE3.out,if_neg (fun h=>h.2 hv),if_pos rfl]
    subst hv
    simp only [V.null] at F2
    clear HE3
    go_wp2_with fail
    refine Calls.mono (C2.out _) ?_
    rintro e w3 ⟨rfl,hb3⟩
    have S3:=Lib.hid (S2.out.kept hb3)
    clear hb3 S2 F2
    have F3:=S3.out.facts
    simp only [St.Facts,cellFacts,apartFacts,and_true] at F3
    cases hi : isName n with
    | false=>
     have HR : Hid (y = false):=by show _ = _; rw [HE4.out,if_pos (.inl hi)]
     clear HE4 C2 C3 HC HN
     go_wp2_with fail
     go_returns
     exact ⟨by rw [HR.out]; rfl,S3.out.below⟩
    | true=>
     by_cases ht0 : t = []
     ·have HR : Hid (y = args.all Ex.formed):=by show _ = _; rw [HE4.out,if_neg (by simp [hi,ht0])]
      subst ht0
      clear HE4 hi C2 C3
      go_wp2_with fail
      refine Calls.mono (HC.out _ S3.out.below) ?_
      rintro e w4 ⟨rfl,hb4⟩
      have S4:=Lib.hid (S3.out.kept hb4)
      clear hb4 S3 F3
      generalize (args.any fun a=>!a.formed) = b at *
      go_wp2_with fail
      exact bodyPost_ret (v:=.bool (!b)) (by simp [results,Tryz.results116,go_sem]) rfl ⟨by rw [show y = !b from (by rw [HR.out,← HN.out])],S4.out.below⟩
     ·have kt : (!t.isEmpty) = true:=by cases t with | nil=>exact absurd rfl ht0 | cons a l=>rfl
      go_wp2_with fail
      refine Calls.mono (C3.out _) ?_
      rintro e w4 ⟨rfl,hb4⟩
      have S4:=Lib.hid (S3.out.kept hb4)
      clear hb4 S3 F3
      have F4:=S4.out.facts
      simp only [St.Facts,cellFacts,apartFacts,and_true] at F4
      cases hj : isName t with
      | false=>
       have HR : Hid (y = false):=by show _ = _; rw [HE4.out,if_pos (.inr ⟨ht0,hj⟩)]
       clear HE4 C2 C3 HC HN
       go_wp2_with fail
       go_returns
       exact ⟨by rw [HR.out]; rfl,S4.out.below⟩
      | true=>
       have HR : Hid (y = args.all Ex.formed):=by show _ = _; rw [HE4.out,if_neg (by simp [hi,hj])]
       clear HE4 hi hj C2 C3
       go_wp2_with fail
       refine Calls.mono (HC.out _ S4.out.below) ?_
       rintro e w5 ⟨rfl,hb5⟩
       have S5:=Lib.hid (S4.out.kept hb5)
       clear hb5 S4 F4
       generalize (args.any fun a=>!a.formed) = b at *
       go_wp2_with fail
       exact bodyPost_ret (v:=.bool (!b)) (by simp [results,Tryz.results116,go_sem]) rfl ⟨by rw [show y = !b from (by rw [HR.out,← HN.out])],S5.out.below⟩
   ·have HR : Hid (y = false):=by show _ = _; rw [HE3.out,if_pos ⟨by omega,hv⟩]
    have hv' : ¬ (v.k = 0∧v.n = 0∧v.s.toList = []):=by rw [← str_nil]; intro h; exact hv ((V.ext_iff _ _).2 h)
    clear HE3 C2 C3 HC HN
    go_wp2_with fail
    all_goals first | (exfalso; exact hv' ⟨by assumption,by assumption,by assumption⟩) | skip
    all_goals go_returns
    all_goals exact ⟨by rw [HR.out]; rfl,S2.out.below⟩
 ·have hne : (args.length : Int) ≠ 0:=by omega
  have kl : ((args.length : Int) != 0) = true:=bne_iff_ne.2 hne
  have HR : Hid (y = false):=by show _ = _; rw [HE.out,if_pos (.inr (.inr (.inl hne)))]
  clear HE HN HC0 C1 C2 C3 har hne hl HZ
  go_enter Tryz.func116,Tryz.ntmps116
  go_wp2_with fail
  have y0 : ∀ (d : Nat) (os : Array Obj),(grow (redrawn (w.alloc (.cells #[.int .i64 1,.string ⟨t.toArray⟩,.string ⟨n.toArray⟩,.int .i64 v.k,.int .i64 v.n,.string v.s,.slice ad args.length ac] 44)) d) os).cell? ⟨w.heap.size,0,none⟩ = some (.int .i64 1):=fun d os=>(below_regrown _ d os).cell_kept (by simp only [World.cell?,World.alloc_heap_new]; rfl)
  refine wp_region_mixed 5 [(0,false),(1,false),(2,false),(3,false),(4,false)] (by kernel_rfl) (by kernel_rfl) ?_
  repeat (refine wpM_mild rfl (fun K hK=>?_); go_simp; first | (refine hK _ ?_; clear hK K) | (apply Exists.intro; refine ⟨fun _=>?_,hK _ ?_⟩; (fail); clear hK K))
  refine wpM_end ?_
  intro w1 hb1 _
  have S1:=Lib.hid (S0.out.kept hb1)
  clear y0 hb1 S0
  have F1:=S1.out.facts
  simp only [St.Facts,cellFacts,apartFacts,and_true] at F1
  go_wp2_with fail
  all_goals go_returns
  all_goals exact ⟨by rw [HR.out]; rfl,S1.out.below⟩
set_option maxRecDepth 100000 in
set_option maxHeartbeats 4000000 in
theorem formed_2 {w : World} {t n : Bytes} {v : V} {args : List Ex} {ad : Option Addr} {ac : Nat} (hw : v.Wf) (hnt : n.length + t.length≤4611686018427387904)
  (HC0 : Hid (args.length≤1000000→∀ W,Below w.heap.size w W→Calls Tryz.prog 113 #[.slice ad args.length ac,.func (.func 179) #[] #[]] W (Says (.bool (args.any fun a=>!a.formed)) W))) :
  Calls Tryz.prog 116 #[.agg #[.int .i64 2,.string ⟨t.toArray⟩,.string ⟨n.toArray⟩,.int .i64 v.k,.int .i64 v.n,.string v.s,.slice ad args.length ac]] w (Says (.bool (Ex.mk 2 t n v args).formed) w):=by
 have HE:=Lib.hid (formed_eq 2 t n v args)
 have HN:=Lib.hid (any_not Ex.formed args)
 have C1:=Lib.hid (fun W=>isValue_any v hw W)
 have C2:=Lib.hid (fun W=>schemaName_all n W)
 have C3:=Lib.hid (fun W=>schemaName_all t W)
 obtain ⟨y,hy⟩ : ∃ y,(Ex.mk 2 t n v args).formed = y:=⟨_,rfl⟩
 rw [hy] at HE ⊢
 have HZ : Hid (¬ 9223372036854775807 < n.length + t.length):=by show ¬ _; omega
 clear hy hw hnt
 have S0 : Hid (St w (w.alloc (.cells #[.int .i64 2,.string ⟨t.toArray⟩,.string ⟨n.toArray⟩,.int .i64 v.k,.int .i64 v.n,.string v.s,.slice ad args.length ac] 44)) [(w.heap.size,#[.int .i64 2,.string ⟨t.toArray⟩,.string ⟨n.toArray⟩,.int .i64 v.k,.int .i64 v.n,.string v.s,.slice ad args.length ac],44)]):=St.alloc (St.start w)
 have har : arity 2 = 0:=by unfold arity; simp
 rw [har] at HE
 by_cases hl : args.length = 0
 ·have kl : ((args.length : Int) != 0) = false:=by simp [hl]
  have HC:=Lib.hid (HC0.out (by omega))
  clear HC0
  have kl2 : ((args.length : Int)) = 0:=by simp [hl]
  have HE2 : Hid (y = if v.right = false then false else if (2 : Int) ≠ 2∧v ≠ V.null then false else if (2 : Int) = 1 then (if isName n = false∨(t ≠ []∧isName t = false) then false else args.all Ex.formed) else (if n ++ t = [] then args.all Ex.formed else false)):=by
   show _ = _
   rw [HE.out]
   by_cases hr : v.right = false
   ·rw [if_pos (.inr (.inr (.inr hr))),if_pos hr]
   ·rw [if_neg (by rintro (h | h | h | h) <;> first | omega | exact hr h),if_neg hr]
    try rfl
  clear HE har kl2 hl
  go_enter Tryz.func116,Tryz.ntmps116
  go_wp2_with fail
  have y0 : ∀ (d : Nat) (os : Array Obj),(grow (redrawn (w.alloc (.cells #[.int .i64 2,.string ⟨t.toArray⟩,.string ⟨n.toArray⟩,.int .i64 v.k,.int .i64 v.n,.string v.s,.slice ad args.length ac] 44)) d) os).cell? ⟨w.heap.size,0,none⟩ = some (.int .i64 2):=fun d os=>(below_regrown _ d os).cell_kept (by simp only [World.cell?,World.alloc_heap_new]; rfl)
  refine wp_region_mixed 5 [(0,false),(1,false),(2,false),(3,false),(4,false)] (by kernel_rfl) (by kernel_rfl) ?_
  repeat (refine wpM_mild rfl (fun K hK=>?_); go_simp; first | (refine hK _ ?_; clear hK K) | (apply Exists.intro; refine ⟨fun _=>?_,hK _ ?_⟩; (fail); clear hK K))
  refine wpM_end ?_
  intro w1 hb1 _
  have S1:=Lib.hid (S0.out.kept hb1)
  clear y0 hb1 S0
  have F1:=S1.out.facts
  simp only [St.Facts,cellFacts,apartFacts,and_true] at F1
  go_wp2_with fail
  refine Calls.mono (C1.out _) ?_
  rintro e w2 ⟨rfl,hb2⟩
  have S2:=Lib.hid (S1.out.kept hb2)
  clear hb2 S1 F1
  have F2:=S2.out.facts
  simp only [St.Facts,cellFacts,apartFacts,and_true] at F2
  cases hr : v.right with
  | false=>
   have HR : Hid (y = false):=by show _ = _; rw [HE2.out,if_pos hr]
   clear HE2 C1 C2 C3 HC HN
   go_wp2_with fail
   go_returns
   exact ⟨by rw [HR.out]; rfl,S2.out.below⟩
  | true=>
   have HE3 : Hid (y = if (2 : Int) ≠ 2∧v ≠ V.null then false else if (2 : Int) = 1 then (if isName n = false∨(t ≠ []∧isName t = false) then false else args.all Ex.formed) else (if n ++ t = [] then args.all Ex.formed else false)):=by show _ = _; rw [HE2.out,if_neg (show ¬ v.right = false by rw [hr]; exact Bool.noConfusion)]; try simp
   clear HE2 hr C1
   have HE4 : Hid (y = if n ++ t = [] then args.all Ex.formed else false):=by show _ = _; rw [HE3.out,if_neg (fun h=>h.1 rfl),if_neg (show ¬ (2 : Int) = 1 by decide)]
   clear HE3
   by_cases hnt : n ++ t = []
   ·have HR : Hid (y = args.all Ex.formed):=by show _ = _; rw [HE4.out,if_pos hnt]
    obtain ⟨rfl,rfl⟩:=List.append_eq_nil_iff.1 hnt
    have ec : (⟨#[]⟩ : ByteArray) ++ ⟨#[]⟩ = ⟨#[]⟩:=by rw [ByteArray.mk_append_mk [] []]; rfl
    clear HE4 hnt C2 C3 HZ
    go_wp2_with fail
    refine Calls.mono (HC.out _ S2.out.below) ?_
    rintro e w3 ⟨rfl,hb3⟩
    have S3:=Lib.hid (S2.out.kept hb3)
    clear hb3 S2 F2
    generalize (args.any fun a=>!a.formed) = b at *
    go_wp2_with fail
    exact bodyPost_ret (v:=.bool (!b)) (by simp [results,Tryz.results116,go_sem]) rfl ⟨by rw [show y = !b from (by rw [HR.out,← HN.out])],S3.out.below⟩
   ·have HR : Hid (y = false):=by show _ = _; rw [HE4.out,if_neg hnt]
    have e1:=ByteArray.mk_append_mk n t
    have kz:=HZ.out
    have k1 : (!(n ++ t).isEmpty) = true:=by cases hc : n ++ t with | nil=>exact absurd hc hnt | cons a l=>rfl
    clear HE4 C2 C3 HC HN HZ
    go_wp2_with fail
    all_goals go_returns
    all_goals exact ⟨by rw [HR.out]; rfl,S2.out.below⟩
 ·have hne : (args.length : Int) ≠ 0:=by omega
  have kl : ((args.length : Int) != 0) = true:=bne_iff_ne.2 hne
  have HR : Hid (y = false):=by show _ = _; rw [HE.out,if_pos (.inr (.inr (.inl hne)))]
  clear HE HN HC0 C1 C2 C3 har hne hl HZ
  go_enter Tryz.func116,Tryz.ntmps116
  go_wp2_with fail
  have y0 : ∀ (d : Nat) (os : Array Obj),(grow (redrawn (w.alloc (.cells #[.int .i64 2,.string ⟨t.toArray⟩,.string ⟨n.toArray⟩,.int .i64 v.k,.int .i64 v.n,.string v.s,.slice ad args.length ac] 44)) d) os).cell? ⟨w.heap.size,0,none⟩ = some (.int .i64 2):=fun d os=>(below_regrown _ d os).cell_kept (by simp only [World.cell?,World.alloc_heap_new]; rfl)
  refine wp_region_mixed 5 [(0,false),(1,false),(2,false),(3,false),(4,false)] (by kernel_rfl) (by kernel_rfl) ?_
  repeat (refine wpM_mild rfl (fun K hK=>?_); go_simp; first | (refine hK _ ?_; clear hK K) | (apply Exists.intro; refine ⟨fun _=>?_,hK _ ?_⟩; (fail); clear hK K))
  refine wpM_end ?_
  intro w1 hb1 _
  have S1:=Lib.hid (S0.out.kept hb1)
  clear y0 hb1 S0
  have F1:=S1.out.facts
  simp only [St.Facts,cellFacts,apartFacts,and_true] at F1
  go_wp2_with fail
  all_goals go_returns
  all_goals exact ⟨by rw [HR.out]; rfl,S1.out.below⟩
set_option maxRecDepth 100000 in
set_option maxHeartbeats 4000000 in
theorem formed_14 {w : World} {t n : Bytes} {v : V} {args : List Ex} {ad : Option Addr} {ac : Nat} (hw : v.Wf) (hnt : n.length + t.length≤4611686018427387904)
  (HC0 : Hid (args.length≤1000000→∀ W,Below w.heap.size w W→Calls Tryz.prog 113 #[.slice ad args.length ac,.func (.func 179) #[] #[]] W (Says (.bool (args.any fun a=>!a.formed)) W))) :
  Calls Tryz.prog 116 #[.agg #[.int .i64 14,.string ⟨t.toArray⟩,.string ⟨n.toArray⟩,.int .i64 v.k,.int .i64 v.n,.string v.s,.slice ad args.length ac]] w (Says (.bool (Ex.mk 14 t n v args).formed) w):=by
 have HE:=Lib.hid (formed_eq 14 t n v args)
 have HN:=Lib.hid (any_not Ex.formed args)
 have C1:=Lib.hid (fun W=>isValue_any v hw W)
 have C2:=Lib.hid (fun W=>schemaName_all n W)
 have C3:=Lib.hid (fun W=>schemaName_all t W)
 obtain ⟨y,hy⟩ : ∃ y,(Ex.mk 14 t n v args).formed = y:=⟨_,rfl⟩
 rw [hy] at HE ⊢
 have HZ : Hid (¬ 9223372036854775807 < n.length + t.length):=by show ¬ _; omega
 clear hy hw hnt
 have S0 : Hid (St w (w.alloc (.cells #[.int .i64 14,.string ⟨t.toArray⟩,.string ⟨n.toArray⟩,.int .i64 v.k,.int .i64 v.n,.string v.s,.slice ad args.length ac] 44)) [(w.heap.size,#[.int .i64 14,.string ⟨t.toArray⟩,.string ⟨n.toArray⟩,.int .i64 v.k,.int .i64 v.n,.string v.s,.slice ad args.length ac],44)]):=St.alloc (St.start w)
 have har : arity 14 = 1:=by unfold arity; simp
 rw [har] at HE
 by_cases hl : args.length = 1
 ·have kl : ((args.length : Int) != 1) = false:=by simp [hl]
  have HC:=Lib.hid (HC0.out (by omega))
  clear HC0
  have kl2 : ((args.length : Int)) = 1:=by simp [hl]
  have HE2 : Hid (y = if v.right = false then false else if (14 : Int) ≠ 2∧v ≠ V.null then false else if (14 : Int) = 1 then (if isName n = false∨(t ≠ []∧isName t = false) then false else args.all Ex.formed) else (if n ++ t = [] then args.all Ex.formed else false)):=by
   show _ = _
   rw [HE.out]
   by_cases hr : v.right = false
   ·rw [if_pos (.inr (.inr (.inr hr))),if_pos hr]
   ·rw [if_neg (by rintro (h | h | h | h) <;> first | omega | exact hr h),if_neg hr]
    try rfl
  clear HE har kl2 hl
  go_enter Tryz.func116,Tryz.ntmps116
  go_wp2_with fail
  have y0 : ∀ (d : Nat) (os : Array Obj),(grow (redrawn (w.alloc (.cells #[.int .i64 14,.string ⟨t.toArray⟩,.string ⟨n.toArray⟩,.int .i64 v.k,.int .i64 v.n,.string v.s,.slice ad args.length ac] 44)) d) os).cell? ⟨w.heap.size,0,none⟩ = some (.int .i64 14):=fun d os=>(below_regrown _ d os).cell_kept (by simp only [World.cell?,World.alloc_heap_new]; rfl)
  refine wp_region_mixed 5 [(0,false),(1,false),(2,false),(3,false),(4,false)] (by kernel_rfl) (by kernel_rfl) ?_
  repeat (refine wpM_mild rfl (fun K hK=>?_); go_simp; first | (refine hK _ ?_; clear hK K) | (apply Exists.intro; refine ⟨fun _=>?_,hK _ ?_⟩; (fail); clear hK K))
  refine wpM_end ?_
  intro w1 hb1 _
  have S1:=Lib.hid (S0.out.kept hb1)
  clear y0 hb1 S0
  have F1:=S1.out.facts
  simp only [St.Facts,cellFacts,apartFacts,and_true] at F1
  go_wp2_with fail
  refine Calls.mono (C1.out _) ?_
  rintro e w2 ⟨rfl,hb2⟩
  have S2:=Lib.hid (S1.out.kept hb2)
  clear hb2 S1 F1
  have F2:=S2.out.facts
  simp only [St.Facts,cellFacts,apartFacts,and_true] at F2
  cases hr : v.right with
  | false=>
   have HR : Hid (y = false):=by show _ = _; rw [HE2.out,if_pos hr]
   clear HE2 C1 C2 C3 HC HN
   go_wp2_with fail
   go_returns
   exact ⟨by rw [HR.out]; rfl,S2.out.below⟩
  | true=>
   have HE3 : Hid (y = if (14 : Int) ≠ 2∧v ≠ V.null then false else if (14 : Int) = 1 then (if isName n = false∨(t ≠ []∧isName t = false) then false else args.all Ex.formed) else (if n ++ t = [] then args.all Ex.formed else false)):=by show _ = _; rw [HE2.out,if_neg (show ¬ v.right = false by rw [hr]; exact Bool.noConfusion)]; try simp
   clear HE2 hr C1
   by_cases hv : v = V.null
   ·have HE4 : Hid (y = if n ++ t = [] then args.all Ex.formed else false):=by show _ = _; rw [HE3.out,if_neg (fun h=>h.2 hv),if_neg (by omega)]
    subst hv
    simp only [V.null] at F2
    clear HE3
    by_cases hnt : n ++ t = []
    ·have HR : Hid (y = args.all Ex.formed):=by show _ = _; rw [HE4.out,if_pos hnt]
     obtain ⟨rfl,rfl⟩:=List.append_eq_nil_iff.1 hnt
     have ec : (⟨#[]⟩ : ByteArray) ++ ⟨#[]⟩ = ⟨#[]⟩:=by rw [ByteArray.mk_append_mk [] []]; rfl
     clear HE4 hnt C2 C3 HZ
     go_wp2_with fail
     refine Calls.mono (HC.out _ S2.out.below) ?_
     rintro e w3 ⟨rfl,hb3⟩
     have S3:=Lib.hid (S2.out.kept hb3)
     clear hb3 S2 F2
     generalize (args.any fun a=>!a.formed) = b at *
     go_wp2_with fail
     exact bodyPost_ret (v:=.bool (!b)) (by simp [results,Tryz.results116,go_sem]) rfl ⟨by rw [show y = !b from (by rw [HR.out,← HN.out])],S3.out.below⟩
    ·have HR : Hid (y = false):=by show _ = _; rw [HE4.out,if_neg hnt]
     have e1:=ByteArray.mk_append_mk n t
     have kz:=HZ.out
     have k1 : (!(n ++ t).isEmpty) = true:=by cases hc : n ++ t with | nil=>exact absurd hc hnt | cons a l=>rfl
     clear HE4 C2 C3 HC HN HZ
     go_wp2_with fail
     all_goals go_returns
     all_goals exact ⟨by rw [HR.out]; rfl,S2.out.below⟩
   ·have HR : Hid (y = false):=by show _ = _; rw [HE3.out,if_pos ⟨by omega,hv⟩]
    have hv' : ¬ (v.k = 0∧v.n = 0∧v.s.toList = []):=by rw [← str_nil]; intro h; exact hv ((V.ext_iff _ _).2 h)
    clear HE3 C2 C3 HC HN
    go_wp2_with fail
    all_goals first | (exfalso; exact hv' ⟨by assumption,by assumption,by assumption⟩) | skip
    all_goals go_returns
    all_goals exact ⟨by rw [HR.out]; rfl,S2.out.below⟩
 ·have hne : (args.length : Int) ≠ 1:=by omega
  have kl : ((args.length : Int) != 1) = true:=bne_iff_ne.2 hne
  have HR : Hid (y = false):=by show _ = _; rw [HE.out,if_pos (.inr (.inr (.inl hne)))]
  clear HE HN HC0 C1 C2 C3 har hne hl HZ
  go_enter Tryz.func116,Tryz.ntmps116
  go_wp2_with fail
  have y0 : ∀ (d : Nat) (os : Array Obj),(grow (redrawn (w.alloc (.cells #[.int .i64 14,.string ⟨t.toArray⟩,.string ⟨n.toArray⟩,.int .i64 v.k,.int .i64 v.n,.string v.s,.slice ad args.length ac] 44)) d) os).cell? ⟨w.heap.size,0,none⟩ = some (.int .i64 14):=fun d os=>(below_regrown _ d os).cell_kept (by simp only [World.cell?,World.alloc_heap_new]; rfl)
  refine wp_region_mixed 5 [(0,false),(1,false),(2,false),(3,false),(4,false)] (by kernel_rfl) (by kernel_rfl) ?_
  repeat (refine wpM_mild rfl (fun K hK=>?_); go_simp; first | (refine hK _ ?_; clear hK K) | (apply Exists.intro; refine ⟨fun _=>?_,hK _ ?_⟩; (fail); clear hK K))
  refine wpM_end ?_
  intro w1 hb1 _
  have S1:=Lib.hid (S0.out.kept hb1)
  clear y0 hb1 S0
  have F1:=S1.out.facts
  simp only [St.Facts,cellFacts,apartFacts,and_true] at F1
  go_wp2_with fail
  all_goals go_returns
  all_goals exact ⟨by rw [HR.out]; rfl,S1.out.below⟩
set_option maxRecDepth 100000 in
set_option maxHeartbeats 4000000 in
theorem formed_15 {w : World} {t n : Bytes} {v : V} {args : List Ex} {ad : Option Addr} {ac : Nat} (hw : v.Wf) (hnt : n.length + t.length≤4611686018427387904)
  (HC0 : Hid (args.length≤1000000→∀ W,Below w.heap.size w W→Calls Tryz.prog 113 #[.slice ad args.length ac,.func (.func 179) #[] #[]] W (Says (.bool (args.any fun a=>!a.formed)) W))) :
  Calls Tryz.prog 116 #[.agg #[.int .i64 15,.string ⟨t.toArray⟩,.string ⟨n.toArray⟩,.int .i64 v.k,.int .i64 v.n,.string v.s,.slice ad args.length ac]] w (Says (.bool (Ex.mk 15 t n v args).formed) w):=by
 have HE:=Lib.hid (formed_eq 15 t n v args)
 have HN:=Lib.hid (any_not Ex.formed args)
 have C1:=Lib.hid (fun W=>isValue_any v hw W)
 have C2:=Lib.hid (fun W=>schemaName_all n W)
 have C3:=Lib.hid (fun W=>schemaName_all t W)
 obtain ⟨y,hy⟩ : ∃ y,(Ex.mk 15 t n v args).formed = y:=⟨_,rfl⟩
 rw [hy] at HE ⊢
 have HZ : Hid (¬ 9223372036854775807 < n.length + t.length):=by show ¬ _; omega
 clear hy hw hnt
 have S0 : Hid (St w (w.alloc (.cells #[.int .i64 15,.string ⟨t.toArray⟩,.string ⟨n.toArray⟩,.int .i64 v.k,.int .i64 v.n,.string v.s,.slice ad args.length ac] 44)) [(w.heap.size,#[.int .i64 15,.string ⟨t.toArray⟩,.string ⟨n.toArray⟩,.int .i64 v.k,.int .i64 v.n,.string v.s,.slice ad args.length ac],44)]):=St.alloc (St.start w)
 have har : arity 15 = 1:=by unfold arity; simp
 rw [har] at HE
 by_cases hl : args.length = 1
 ·have kl : ((args.length : Int) != 1) = false:=by simp [hl]
  have HC:=Lib.hid (HC0.out (by omega))
  clear HC0
  have kl2 : ((args.length : Int)) = 1:=by simp [hl]
  have HE2 : Hid (y = if v.right = false then false else if (15 : Int) ≠ 2∧v ≠ V.null then false else if (15 : Int) = 1 then (if isName n = false∨(t ≠ []∧isName t = false) then false else args.all Ex.formed) else (if n ++ t = [] then args.all Ex.formed else false)):=by
   show _ = _
   rw [HE.out]
   by_cases hr : v.right = false
   ·rw [if_pos (.inr (.inr (.inr hr))),if_pos hr]
   ·rw [if_neg (by rintro (h | h | h | h) <;> first | omega | exact hr h),if_neg hr]
    try rfl
  clear HE har kl2 hl
  go_enter Tryz.func116,Tryz.ntmps116
  go_wp2_with fail
  have y0 : ∀ (d : Nat) (os : Array Obj),(grow (redrawn (w.alloc (.cells #[.int .i64 15,.string ⟨t.toArray⟩,.string ⟨n.toArray⟩,.int .i64 v.k,.int .i64 v.n,.string v.s,.slice ad args.length ac] 44)) d) os).cell? ⟨w.heap.size,0,none⟩ = some (.int .i64 15):=fun d os=>(below_regrown _ d os).cell_kept (by simp only [World.cell?,World.alloc_heap_new]; rfl)
  refine wp_region_mixed 5 [(0,false),(1,false),(2,false),(3,false),(4,false)] (by kernel_rfl) (by kernel_rfl) ?_
  repeat (refine wpM_mild rfl (fun K hK=>?_); go_simp; first | (refine hK _ ?_; clear hK K) | (apply Exists.intro; refine ⟨fun _=>?_,hK _ ?_⟩; (fail); clear hK K))
  refine wpM_end ?_
  intro w1 hb1 _
  have S1:=Lib.hid (S0.out.kept hb1)
  clear y0 hb1 S0
  have F1:=S1.out.facts
  simp only [St.Facts,cellFacts,apartFacts,and_true] at F1
  go_wp2_with fail
  refine Calls.mono (C1.out _) ?_
  rintro e w2 ⟨rfl,hb2⟩
  have S2:=Lib.hid (S1.out.kept hb2)
  clear hb2 S1 F1
  have F2:=S2.out.facts
  simp only [St.Facts,cellFacts,apartFacts,and_true] at F2
  cases hr : v.right with
  | false=>
   have HR : Hid (y = false):=by show _ = _; rw [HE2.out,if_pos hr]
   clear HE2 C1 C2 C3 HC HN
   go_wp2_with fail
   go_returns
   exact ⟨by rw [HR.out]; rfl,S2.out.below⟩
  | true=>
   have HE3 : Hid (y = if (15 : Int) ≠ 2∧v ≠ V.null then false else if (15 : Int) = 1 then (if isName n = false∨(t ≠ []∧isName t = false) then false else args.all Ex.formed) else (if n ++ t = [] then args.all Ex.formed else false)):=by show _ = _; rw [HE2.out,if_neg (show ¬ v.right = false by rw [hr]; exact Bool.noConfusion)]; try simp
   clear HE2 hr C1
   by_cases hv : v = V.null
   ·have HE4 : Hid (y = if n ++ t = [] then args.all Ex.formed else false):=by show _ = _; rw [HE3.out,if_neg (fun h=>h.2 hv),if_neg (by omega)]
    subst hv
    simp only [V.null] at F2
    clear HE3
    by_cases hnt : n ++ t = []
    ·have HR : Hid (y = args.all Ex.formed):=by show _ = _; rw [HE4.out,if_pos hnt]
     obtain ⟨rfl,rfl⟩:=List.append_eq_nil_iff.1 hnt
     have ec : (⟨#[]⟩ : ByteArray) ++ ⟨#[]⟩ = ⟨#[]⟩:=by rw [ByteArray.mk_append_mk [] []]; rfl
     clear HE4 hnt C2 C3 HZ
     go_wp2_with fail
     refine Calls.mono (HC.out _ S2.out.below) ?_
     rintro e w3 ⟨rfl,hb3⟩
     have S3:=Lib.hid (S2.out.kept hb3)
     clear hb3 S2 F2
     generalize (args.any fun a=>!a.formed) = b at *
     go_wp2_with fail
     exact bodyPost_ret (v:=.bool (!b)) (by simp [results,Tryz.results116,go_sem]) rfl ⟨by rw [show y = !b from (by rw [HR.out,← HN.out])],S3.out.below⟩
    ·have HR : Hid (y = false):=by show _ = _; rw [HE4.out,if_neg hnt]
     have e1:=ByteArray.mk_append_mk n t
     have kz:=HZ.out
     have k1 : (!(n ++ t).isEmpty) = true:=by cases hc : n ++ t with | nil=>exact absurd hc hnt | cons a l=>rfl
     clear HE4 C2 C3 HC HN HZ
     go_wp2_with fail
     all_goals go_returns
     all_goals exact ⟨by rw [HR.out]; rfl,S2.out.below⟩
   ·have HR : Hid (y = false):=by show _ = _; rw [HE3.out,if_pos ⟨by omega,hv⟩]
    have hv' : ¬ (v.k = 0∧v.n = 0∧v.s.toList = []):=by rw [← str_nil]; intro h; exact hv ((V.ext_iff _ _).2 h)
    clear HE3 C2 C3 HC HN
    go_wp2_with fail
    all_goals first | (exfalso; exact hv' ⟨by assumption,by assumption,by assumption⟩) | skip
    all_goals go_returns
    all_goals exact ⟨by rw [HR.out]; rfl,S2.out.below⟩
 ·have hne : (args.length : Int) ≠ 1:=by omega
  have kl : ((args.length : Int) != 1) = true:=bne_iff_ne.2 hne
  have HR : Hid (y = false):=by show _ = _; rw [HE.out,if_pos (.inr (.inr (.inl hne)))]
  clear HE HN HC0 C1 C2 C3 har hne hl HZ
  go_enter Tryz.func116,Tryz.ntmps116
  go_wp2_with fail
  have y0 : ∀ (d : Nat) (os : Array Obj),(grow (redrawn (w.alloc (.cells #[.int .i64 15,.string ⟨t.toArray⟩,.string ⟨n.toArray⟩,.int .i64 v.k,.int .i64 v.n,.string v.s,.slice ad args.length ac] 44)) d) os).cell? ⟨w.heap.size,0,none⟩ = some (.int .i64 15):=fun d os=>(below_regrown _ d os).cell_kept (by simp only [World.cell?,World.alloc_heap_new]; rfl)
  refine wp_region_mixed 5 [(0,false),(1,false),(2,false),(3,false),(4,false)] (by kernel_rfl) (by kernel_rfl) ?_
  repeat (refine wpM_mild rfl (fun K hK=>?_); go_simp; first | (refine hK _ ?_; clear hK K) | (apply Exists.intro; refine ⟨fun _=>?_,hK _ ?_⟩; (fail); clear hK K))
  refine wpM_end ?_
  intro w1 hb1 _
  have S1:=Lib.hid (S0.out.kept hb1)
  clear y0 hb1 S0
  have F1:=S1.out.facts
  simp only [St.Facts,cellFacts,apartFacts,and_true] at F1
  go_wp2_with fail
  all_goals go_returns
  all_goals exact ⟨by rw [HR.out]; rfl,S1.out.below⟩
set_option maxRecDepth 100000 in
set_option maxHeartbeats 4000000 in
theorem formed_op {w : World} {t n : Bytes} {v : V} {args : List Ex} {ad : Option Addr} {ac : Nat} {op : Int} (h3 : 3≤op) (h13 : op≤13) (hw : v.Wf) (hnt : n.length + t.length≤4611686018427387904)
  (HC0 : Hid (args.length≤1000000→∀ W,Below w.heap.size w W→Calls Tryz.prog 113 #[.slice ad args.length ac,.func (.func 179) #[] #[]] W (Says (.bool (args.any fun a=>!a.formed)) W))) :
  Calls Tryz.prog 116 #[.agg #[.int .i64 op,.string ⟨t.toArray⟩,.string ⟨n.toArray⟩,.int .i64 v.k,.int .i64 v.n,.string v.s,.slice ad args.length ac]] w (Says (.bool (Ex.mk op t n v args).formed) w):=by
 have HE:=Lib.hid (formed_eq op t n v args)
 have HN:=Lib.hid (any_not Ex.formed args)
 have C1:=Lib.hid (fun W=>isValue_any v hw W)
 have C2:=Lib.hid (fun W=>schemaName_all n W)
 have C3:=Lib.hid (fun W=>schemaName_all t W)
 obtain ⟨y,hy⟩ : ∃ y,(Ex.mk op t n v args).formed = y:=⟨_,rfl⟩
 rw [hy] at HE ⊢
 have HZ : Hid (¬ 9223372036854775807 < n.length + t.length):=by show ¬ _; omega
 clear hy hw hnt
 have S0 : Hid (St w (w.alloc (.cells #[.int .i64 op,.string ⟨t.toArray⟩,.string ⟨n.toArray⟩,.int .i64 v.k,.int .i64 v.n,.string v.s,.slice ad args.length ac] 44)) [(w.heap.size,#[.int .i64 op,.string ⟨t.toArray⟩,.string ⟨n.toArray⟩,.int .i64 v.k,.int .i64 v.n,.string v.s,.slice ad args.length ac],44)]):=St.alloc (St.start w)
 have har : arity op = 2:=by unfold arity; rw [if_neg (by omega),if_neg (by omega)]
 rw [har] at HE
 have k1 : (op == 1) = false:=by simp; omega
 have k2 : (op == 2) = false:=by simp; omega
 have k14 : (op == 14) = false:=by simp; omega
 have k15 : (op == 15) = false:=by simp; omega
 have k2n : (op != 2) = true:=by simp; omega
 by_cases hl : args.length = 2
 ·have kl : ((args.length : Int) != 2) = false:=by simp [hl]
  have HC:=Lib.hid (HC0.out (by omega))
  clear HC0
  have kl2 : ((args.length : Int)) = 2:=by simp [hl]
  have HE2 : Hid (y = if v.right = false then false else if (op : Int) ≠ 2∧v ≠ V.null then false else if (op : Int) = 1 then (if isName n = false∨(t ≠ []∧isName t = false) then false else args.all Ex.formed) else (if n ++ t = [] then args.all Ex.formed else false)):=by
   show _ = _
   rw [HE.out]
   by_cases hr : v.right = false
   ·rw [if_pos (.inr (.inr (.inr hr))),if_pos hr]
   ·rw [if_neg (by rintro (h | h | h | h) <;> first | omega | exact hr h),if_neg hr]
    try rfl
  clear HE har kl2 hl
  go_enter Tryz.func116,Tryz.ntmps116
  go_wp2_with fail
  have y0 : ∀ (d : Nat) (os : Array Obj),(grow (redrawn (w.alloc (.cells #[.int .i64 op,.string ⟨t.toArray⟩,.string ⟨n.toArray⟩,.int .i64 v.k,.int .i64 v.n,.string v.s,.slice ad args.length ac] 44)) d) os).cell? ⟨w.heap.size,0,none⟩ = some (.int .i64 op):=fun d os=>(below_regrown _ d os).cell_kept (by simp only [World.cell?,World.alloc_heap_new]; rfl)
  refine wp_region_mixed 5 [(0,false),(1,false),(2,false),(3,false),(4,false)] (by kernel_rfl) (by kernel_rfl) ?_
  repeat (refine wpM_mild rfl (fun K hK=>?_); go_simp; first | (refine hK _ ?_; clear hK K) | (apply Exists.intro; refine ⟨fun _=>?_,hK _ ?_⟩; (fail); clear hK K))
  refine wpM_end ?_
  intro w1 hb1 _
  have S1:=Lib.hid (S0.out.kept hb1)
  clear y0 hb1 S0
  have F1:=S1.out.facts
  simp only [St.Facts,cellFacts,apartFacts,and_true] at F1
  go_wp2_with fail
  refine Calls.mono (C1.out _) ?_
  rintro e w2 ⟨rfl,hb2⟩
  have S2:=Lib.hid (S1.out.kept hb2)
  clear hb2 S1 F1
  have F2:=S2.out.facts
  simp only [St.Facts,cellFacts,apartFacts,and_true] at F2
  cases hr : v.right with
  | false=>
   have HR : Hid (y = false):=by show _ = _; rw [HE2.out,if_pos hr]
   clear HE2 C1 C2 C3 HC HN
   go_wp2_with fail
   go_returns
   exact ⟨by rw [HR.out]; rfl,S2.out.below⟩
  | true=>
   have HE3 : Hid (y = if (op : Int) ≠ 2∧v ≠ V.null then false else if (op : Int) = 1 then (if isName n = false∨(t ≠ []∧isName t = false) then false else args.all Ex.formed) else (if n ++ t = [] then args.all Ex.formed else false)):=by show _ = _; rw [HE2.out,if_neg (show ¬ v.right = false by rw [hr]; exact Bool.noConfusion)]; try simp
   clear HE2 hr C1
   by_cases hv : v = V.null
   ·have HE4 : Hid (y = if n ++ t = [] then args.all Ex.formed else false):=by show _ = _; rw [HE3.out,if_neg (fun h=>h.2 hv),if_neg (by omega)]
    subst hv
    simp only [V.null] at F2
    clear HE3
    by_cases hnt : n ++ t = []
    ·have HR : Hid (y = args.all Ex.formed):=by show _ = _; rw [HE4.out,if_pos hnt]
     obtain ⟨rfl,rfl⟩:=List.append_eq_nil_iff.1 hnt
     have ec : (⟨#[]⟩ : ByteArray) ++ ⟨#[]⟩ = ⟨#[]⟩:=by rw [ByteArray.mk_append_mk [] []]; rfl
     clear HE4 hnt C2 C3 HZ
     go_wp2_with fail
     refine Calls.mono (HC.out _ S2.out.below) ?_
     rintro e w3 ⟨rfl,hb3⟩
     have S3:=Lib.hid (S2.out.kept hb3)
     clear hb3 S2 F2
     generalize (args.any fun a=>!a.formed) = b at *
     go_wp2_with fail
     exact bodyPost_ret (v:=.bool (!b)) (by simp [results,Tryz.results116,go_sem]) rfl ⟨by rw [show y = !b from (by rw [HR.out,← HN.out])],S3.out.below⟩
    ·have HR : Hid (y = false):=by show _ = _; rw [HE4.out,if_neg hnt]
     have e1:=ByteArray.mk_append_mk n t
     have kz:=HZ.out
     have k1 : (!(n ++ t).isEmpty) = true:=by cases hc : n ++ t with | nil=>exact absurd hc hnt | cons a l=>rfl
     clear HE4 C2 C3 HC HN HZ
     go_wp2_with fail
     all_goals go_returns
     all_goals exact ⟨by rw [HR.out]; rfl,S2.out.below⟩
   ·have HR : Hid (y = false):=by show _ = _; rw [HE3.out,if_pos ⟨by omega,hv⟩]
    have hv' : ¬ (v.k = 0∧v.n = 0∧v.s.toList = []):=by rw [← str_nil]; intro h; exact hv ((V.ext_iff _ _).2 h)
    clear HE3 C2 C3 HC HN
    go_wp2_with fail
    all_goals first | (exfalso; exact hv' ⟨by assumption,by assumption,by assumption⟩) | skip
    all_goals go_returns
    all_goals exact ⟨by rw [HR.out]; rfl,S2.out.below⟩
 ·have hne : (args.length : Int) ≠ 2:=by omega
  have kl : ((args.length : Int) != 2) = true:=bne_iff_ne.2 hne
  have HR : Hid (y = false):=by show _ = _; rw [HE.out,if_pos (.inr (.inr (.inl hne)))]
  clear HE HN HC0 C1 C2 C3 har hne hl HZ
  go_enter Tryz.func116,Tryz.ntmps116
  go_wp2_with fail
  have y0 : ∀ (d : Nat) (os : Array Obj),(grow (redrawn (w.alloc (.cells #[.int .i64 op,.string ⟨t.toArray⟩,.string ⟨n.toArray⟩,.int .i64 v.k,.int .i64 v.n,.string v.s,.slice ad args.length ac] 44)) d) os).cell? ⟨w.heap.size,0,none⟩ = some (.int .i64 op):=fun d os=>(below_regrown _ d os).cell_kept (by simp only [World.cell?,World.alloc_heap_new]; rfl)
  refine wp_region_mixed 5 [(0,false),(1,false),(2,false),(3,false),(4,false)] (by kernel_rfl) (by kernel_rfl) ?_
  repeat (refine wpM_mild rfl (fun K hK=>?_); go_simp; first | (refine hK _ ?_; clear hK K) | (apply Exists.intro; refine ⟨fun _=>?_,hK _ ?_⟩; (fail); clear hK K))
  refine wpM_end ?_
  intro w1 hb1 _
  have S1:=Lib.hid (S0.out.kept hb1)
  clear y0 hb1 S0
  have F1:=S1.out.facts
  simp only [St.Facts,cellFacts,apartFacts,and_true] at F1
  go_wp2_with fail
  all_goals go_returns
  all_goals exact ⟨by rw [HR.out]; rfl,S1.out.below⟩
end Go.Proofs.YtimoefagohifaaaGreatDoor
