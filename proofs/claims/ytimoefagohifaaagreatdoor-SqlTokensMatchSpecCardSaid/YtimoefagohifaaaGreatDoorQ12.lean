/-
  Part 12 of the texts of one proof, made small by a program: see the last part for what is proved. No condition.
-/
import Derived.RangeFuncNested
import Derived.RangeFuncBound
import Derived.RangeFuncCalls
import Derived.RangeFuncLeaves
import Derived.Shelf.Abstract
import Derived.Shelf.RegionOpen
import Derived.OwnWalkIn
import Derived.TacticsInMore
import Derived.LoopNIn
import Derived.LoopIn
import Derived.Test.YtimoefagohifaaaGreatDoorQ07
import Derived.Test.YtimoefagohifaaaGreatDoorQ11
namespace Go.Proofs.YtimoefagohifaaaGreatDoor
open Go.RowKit Go.Sort
attribute [local go_sem] Oper.semAt_some
theorem roundDepth {m k : Nat} {P : Program} {l : Nat} {f : FuncId} {tmps : Array Value} {assign body : Code} {w : World} {R : Ending→World→Prop} (h : RoundIn Fence.wide m P l f tmps assign body w R) : RoundIn Fence.wide k P l f tmps assign body w R:=
 ⟨h.1,fun c cs _=>h.2 c cs (fun d h=>by cases h)⟩
theorem yieldDepth {m : Nat} (k : Nat) {P : Program} {l : Nat} {args : Array Value} {W : World} {R : Ending→World→Prop} (h : YieldAt Fence.wide m P l args W R) : YieldAt Fence.wide k P l args W R:=by
 obtain ⟨fn,tmps,assign,body,hy,hR⟩:=h
 exact ⟨fn,tmps,assign,body,hy,roundDepth hR⟩
theorem wideD (n : Nat) : Fence.wide.depth.isSome = true→1≤n:=fun h=>by simp [Fence.wide] at h
set_option maxRecDepth 100000 in
set_option maxHeartbeats 2000000 in
theorem visit_leaf (n l : Nat) (op xn : Int) (v : V) (a : Option Addr) (c : Nat) (J Jx : World→Prop) (W : World)
  (HY : YieldAt Fence.wide (n - 1) Tryz.prog l #[.agg #[.int .i64 op,.int .i64 xn,.int .i64 v.k,.int .i64 v.n,.string v.s,.slice a 0 c]] (W.alloc (.cells #[.int .i64 op,.int .i64 xn,.int .i64 v.k,.int .i64 v.n,.string v.s,.slice a 0 c] 69))
   fun e W'=>(e = .returned (.bool true)∧J W'∧W'.heap[W.heap.size]? = some (.cells #[.int .i64 op,.int .i64 xn,.int .i64 v.k,.int .i64 v.n,.string v.s,.slice a 0 c] 69 (0,0)))∨(e = .returned (.bool false)∧Jx W')) :
  CallsIn Fence.wide n Tryz.prog 279 #[.agg #[.int .i64 op,.int .i64 xn,.int .i64 v.k,.int .i64 v.n,.string v.s,.slice a 0 c],.func (.yield l) #[] #[]] W fun e W'=>(e = .returned (.bool true)∧J W')∨(e = .returned (.bool false)∧Jx W'):=by
 obtain ⟨fn,tmps,assign,body,hy,hR⟩:=HY
 refine callsIn_of_wp Tryz.func279 rfl trivial ?_ rfl
 simp only [Tryz.ntmps279,List.size_toArray,List.length_cons,List.length_nil,Nat.reduceAdd,Nat.reduceSub,Array.replicate_succ,Array.replicate_zero,List.push_toArray,List.append_toArray,List.nil_append,List.cons_append]
 gi_wp2
 refine ⟨wideD _,hR.mono ?_⟩
 clear hy hR
 rintro e w2 (⟨rfl,hj2,hb2⟩ | ⟨rfl,hx2⟩)
 ·have y0 : w2.cell? ⟨W.heap.size,5,none⟩ = some (.slice a 0 c):=by simp only [World.cell?,hb2]; rfl
  have HJ:=Lib.hid hj2
  clear hb2 hj2
  gi_wp2
  refine wpIn_loop_rounds 1 ?_
  rw [roundsIn_succ]
  gi_wp2
  refine bodyPost_ret (results_tmp rfl _ _ _) rfl ?_
  exact .inl ⟨rfl,HJ.out⟩
 ·have HX:=Lib.hid hx2
  clear hx2
  gi_wp2
  refine bodyPost_ret (results_tmp rfl _ _ _) rfl ?_
  exact .inr ⟨rfl,HX.out⟩
structure RgI (w : World) (D : Nat) (lp : Loop) (L : List Blk) (W : World) : Prop where
 st : St w W L
 lt : ∀ x ∈ L,x.1 < D
 ge : w.heap.size≤D
 loop : W.heap[D + 1]? = some (.loop lp)
 dfr : W.heap[D]? = some (.deferred (some []))
theorem RgI.start {w W0 : World} {L : List Blk} (h : St w W0 L) (lp : Loop) : RgI w W0.heap.size lp L ((W0.alloc (.deferred (some []))).alloc (.loop lp)):=by
 have hb : Below W0.heap.size W0 ((W0.alloc (.deferred (some []))).alloc (.loop lp)):=((Below.refl _ _).alloc (Nat.le_refl _) _).alloc (by simp) _
 refine ⟨h.kept hb,fun x hx=>?_,h.below.size,?_,?_⟩
 ·obtain ⟨j,hj⟩:=List.mem_iff_getElem?.1 hx
  obtain ⟨b,cs,t⟩:=x
  exact (Array.getElem?_eq_some_iff.1 (h.blk j hj)).1
 ·have:=World.alloc_heap_new (W0.alloc (.deferred (some []))) (.loop lp); rwa [World.size_alloc] at this
 ·exact (Below.heap_alloc _ _ _ (by simp)).trans (World.alloc_heap_new W0 _)
theorem RgI.kept {w W W' : World} {D : Nat} {lp : Loop} {L : List Blk} (h : RgI w D lp L W) (hb : Below W.heap.size W W') : RgI w D lp L W':=
 ⟨h.st.kept hb,h.lt,h.ge,(hb.block _ (Array.getElem?_eq_some_iff.1 h.loop).1).trans h.loop,(hb.block _ (Array.getElem?_eq_some_iff.1 h.dfr).1).trans h.dfr⟩
theorem RgI.put {w W : World} {D : Nat} {lp : Loop} {L : List Blk} (h : RgI w D lp L W) (lp' : Loop) : RgI w D lp' L (W.putObj (D + 1) (.loop lp')):=
 ⟨h.st.turned (Turn.putObj W (D + 1) _) (fun i hi=>by subst hi; have:=h.ge; omega) (fun x hx e=>by have:=h.lt x hx; have e' : x.1 = D + 1:=e; omega),h.lt,h.ge,
  World.putObj_heap_same (Array.getElem?_eq_some_iff.1 h.loop).1,(World.putObj_heap_other (by omega)).trans h.dfr⟩
theorem RgI.set {w W : World} {D : Nat} {lp : Loop} {L : List Blk} (i : Nat) {b o : Nat} {cs : Array Value} {t : TypeId} {v : Value} (h : RgI w D lp L W) (hi : L[i]? = some (b,cs,t)) : RgI w D lp (L.set i (b,cs.setIfInBounds o v,t)) (W.setCell ⟨b,o,none⟩ v):=by
 have hlt:=h.lt _ (List.mem_of_getElem? hi)
 have ht : Turn (· = b) W (W.setCell ⟨b,o,none⟩ v):=(Turn.refl _ W).setCell (.inl rfl)
 refine ⟨St.set i h.st hi,fun x hx=>?_,h.ge,(ht.block _ (Array.getElem?_eq_some_iff.1 h.loop).1 (fun e=>by have e' : D + 1 = b:=e; simp only at hlt; omega)).trans h.loop,(ht.block _ (Array.getElem?_eq_some_iff.1 h.dfr).1 (fun e=>by have e' : D = b:=e; simp only at hlt; omega)).trans h.dfr⟩
 rcases List.mem_or_eq_of_mem_set hx with hx | rfl
 ·exact h.lt x hx
 ·exact hlt
theorem RgI.facts {w W : World} {D : Nat} {lp : Loop} {L : List Blk} (h : RgI w D lp L W) : St.Facts W L:=h.st.facts
theorem RgI.fin {w W : World} {D : Nat} {lp : Loop} {L : List Blk} (h : RgI w D lp L W) : St w (W.putObj D (.deferred none)) L:=
 h.st.turned (Turn.putObj W D _) (fun i hi=>by subst hi; have:=h.ge; omega) (fun x hx e=>by have:=h.lt x hx; have e' : x.1 = D:=e; omega)
def xcs (op xn : Int) (v : V) (a : Option Addr) (c : Nat) : Array Value:=#[.int .i64 op,.int .i64 xn,.int .i64 v.k,.int .i64 v.n,.string v.s,.slice a 0 c]
set_option maxRecDepth 100000 in
set_option maxHeartbeats 2000000 in
theorem nodes_any (op xn : Int) (v : V) (a : Option Addr) (m c : Nat) (w : World) : Calls Tryz.prog 261 #[.agg #[.int .i64 op,.int .i64 xn,.int .i64 v.k,.int .i64 v.n,.string v.s,.slice a m c]] w
  fun e w'=>e = .returned (.func (.func 278) #[] #[.pointer (some ⟨w.heap.size,0,none⟩)])∧w' = w.alloc (.cells #[.int .i64 op,.int .i64 xn,.int .i64 v.k,.int .i64 v.n,.string v.s,.slice a m c] 69):=by
 have hmf : ∀ (fn : Fn) (first cap : Array Value) (w : World),(Instr.makeFunc fn first cap).run Tryz.prog w = .ok (.func fn first cap) w:=fun _ _ _ _=>rfl
 go_enter Tryz.func261,Tryz.ntmps261
 go_wp2_with fail
 go_returns
 exact ⟨rfl,rfl⟩
set_option maxRecDepth 100000 in
set_option maxHeartbeats 2000000 in
theorem nodes1_leaf (n l bs : Nat) (op xn : Int) (v : V) (a : Option Addr) (c : Nat) (J Jx : World→Prop) (W : World) (hb : W.heap[bs]? = some (.cells #[.int .i64 op,.int .i64 xn,.int .i64 v.k,.int .i64 v.n,.string v.s,.slice a 0 c] 69 (0,0)))
  (HY : ∀ m,YieldAt Fence.wide m Tryz.prog l #[.agg #[.int .i64 op,.int .i64 xn,.int .i64 v.k,.int .i64 v.n,.string v.s,.slice a 0 c]] (W.alloc (.cells #[.int .i64 op,.int .i64 xn,.int .i64 v.k,.int .i64 v.n,.string v.s,.slice a 0 c] 69))
   fun e W'=>(e = .returned (.bool true)∧J W'∧W'.heap[W.heap.size]? = some (.cells #[.int .i64 op,.int .i64 xn,.int .i64 v.k,.int .i64 v.n,.string v.s,.slice a 0 c] 69 (0,0)))∨(e = .returned (.bool false)∧Jx W')) :
  CallsIn Fence.wide n Tryz.prog 278 #[.func (.yield l) #[] #[],.pointer (some ⟨bs,0,none⟩)] W fun e W'=>(∃ v,e = .returned v)∧(J W'∨Jx W'):=by
 have C : Hid (∀ m,CallsIn Fence.wide m Tryz.prog 279 #[.agg #[.int .i64 op,.int .i64 xn,.int .i64 v.k,.int .i64 v.n,.string v.s,.slice a 0 c],.func (.yield l) #[] #[]] W fun e W'=>(e = .returned (.bool true)∧J W')∨(e = .returned (.bool false)∧Jx W')):=
  fun m=>visit_leaf m l op xn v a c J Jx W (HY _)
 have y0 : W.cell? ⟨bs,0,none⟩ = some (.int .i64 op):=by simp only [World.cell?,hb]; rfl
 have y1 : W.cell? ⟨bs,1,none⟩ = some (.int .i64 xn):=by simp only [World.cell?,hb]; rfl
 have y2 : W.cell? ⟨bs,2,none⟩ = some (.int .i64 v.k):=by simp only [World.cell?,hb]; rfl
 have y3 : W.cell? ⟨bs,3,none⟩ = some (.int .i64 v.n):=by simp only [World.cell?,hb]; rfl
 have y4 : W.cell? ⟨bs,4,none⟩ = some (.string v.s):=by simp only [World.cell?,hb]; rfl
 have y5 : W.cell? ⟨bs,5,none⟩ = some (.slice a 0 c):=by simp only [World.cell?,hb]; rfl
 clear hb HY
 refine callsIn_of_wp Tryz.func278 rfl trivial ?_ rfl
 simp only [Tryz.ntmps278,List.size_toArray,List.length_cons,List.length_nil,Nat.reduceAdd,Nat.reduceSub,Array.replicate_succ,Array.replicate_zero,List.push_toArray,List.append_toArray,List.nil_append,List.cons_append]
 gi_wp2
 refine ⟨trivial,wideD _,?_⟩
 refine CallsIn.mono (C.out _) ?_
 rintro e w1 (⟨rfl,hj⟩ | ⟨rfl,hj⟩)
 ·have HJ:=Lib.hid hj
  clear hj
  gi_wp2
  go_end0
  exact ⟨⟨_,rfl⟩,.inl HJ.out⟩
 ·have HJ:=Lib.hid hj
  clear hj
  gi_wp2
  go_end0
  exact ⟨⟨_,rfl⟩,.inr HJ.out⟩
set_option maxRecDepth 100000 in
set_option maxHeartbeats 2000000 in
theorem xsize_in (op xn : Int) (v : V) (a : Option Addr) (c : Nat) (w : World) : CallsIn Fence.wide 5 Tryz.prog 260 #[.agg #[.int .i64 op,.int .i64 xn,.int .i64 v.k,.int .i64 v.n,.string v.s,.slice a 0 c]] w (Says (.int .i64 1) w):=by
 refine callsIn_of_wp_marks Tryz.func260 rfl trivial ?_ rfl
 simp only [Tryz.ntmps260,List.size_toArray,List.length_cons,List.length_nil,Nat.reduceAdd,Nat.reduceSub,Array.replicate_succ,Array.replicate_zero,List.push_toArray,List.append_toArray,List.nil_append,List.cons_append]
 gi_wp2
 refine ⟨trivial,?_⟩
 refine CallsIn.mono (callsIn_wide.2 (nodes_any op xn v a 0 c _)) ?_
 rintro e w1 ⟨rfl,rfl⟩
 gi_wp2
 refine St.genIn (St.alloc (St.alloc (St.alloc (St.start w)))) ?_
 intro W0 S0
 simp only [World.size_alloc,Nat.add_assoc,Nat.reduceAdd] at S0 ⊢
 refine wpIn_range_wide (by decide) (gf:=278) (lb:=#[.pointer (some ⟨w.heap.size + 2,0,none⟩)]) rfl (enters_of Tryz.func278 (by kernel_rfl) rfl)
  (fun rc W=>∃ lp,RgI w W0.heap.size lp [(w.heap.size + 2,#[.int .i64 op,.int .i64 xn,.int .i64 v.k,.int .i64 v.n,.string v.s,.slice a 0 c],69),(w.heap.size + 1,#[.int .i64 1],3),(w.heap.size,#[.int .i64 op,.int .i64 xn,.int .i64 v.k,.int .i64 v.n,.string v.s,.slice a 0 c],69)] W) (fun _ _=>False) ?_ ?_ ?_
 ·intro rc hround
  have HR:=Lib.hid hround
  clear hround
  have R0:=RgI.start S0.out (rc .ready none)
  have hl:=R0.loop
  refine CallsIn.mono (nodes1_leaf 4 (W0.heap.size + 1) (w.heap.size + 2) op xn v a c (fun W=>RgI w W0.heap.size (rc .ready none) [(w.heap.size + 2,#[.int .i64 op,.int .i64 xn,.int .i64 v.k,.int .i64 v.n,.string v.s,.slice a 0 c],69),(w.heap.size + 1,#[.int .i64 1],3),(w.heap.size,#[.int .i64 op,.int .i64 xn,.int .i64 v.k,.int .i64 v.n,.string v.s,.slice a 0 c],69)] W) (fun _=>False) _ (R0.st.blk 0 rfl) ?_) ?_
  ·intro m
   have R1:=Lib.hid (R0.kept ((Below.refl _ _).alloc (Nat.le_refl _) (.cells #[.int .i64 op,.int .i64 xn,.int .i64 v.k,.int .i64 v.n,.string v.s,.slice a 0 c] 69)))
   have hbx:=World.alloc_heap_new ((W0.alloc (.deferred (some []))).alloc (.loop (rc .ready none))) (.cells #[.int .i64 op,.int .i64 xn,.int .i64 v.k,.int .i64 v.n,.string v.s,.slice a 0 c] 69)
   have HBX:=Lib.hid hbx
   have hbD : ((W0.alloc (.deferred (some []))).alloc (.loop (rc .ready none))).heap.size = W0.heap.size + 2:=by simp
   have hW0:=S0.out.below.size
   generalize ((W0.alloc (.deferred (some []))).alloc (.loop (rc .ready none))).heap.size = bx at *
   generalize ((W0.alloc (.deferred (some []))).alloc (.loop (rc .ready none))).alloc (.cells #[.int .i64 op,.int .i64 xn,.int .i64 v.k,.int .i64 v.n,.string v.s,.slice a 0 c] 69) = W1 at *
   clear R0 hl hbx
   refine yieldDepth m (HR.out W1 _ _ R1.out.loop rfl ?_)
   clear HR
   gi_wp2
   refine ⟨R1.out.loop,?_⟩
   have R2:=Lib.hid (R1.out.put (rc .busy none))
   have HB2 : Hid ((W1.putObj (W0.heap.size + 1) (.loop (rc .busy none))).heap[bx]? = some (.cells #[.int .i64 op,.int .i64 xn,.int .i64 v.k,.int .i64 v.n,.string v.s,.slice a 0 c] 69 (0,0))):=(World.putObj_heap_other (by omega)).trans HBX.out
   generalize W1.putObj (W0.heap.size + 1) (.loop (rc .busy none)) = Wb at *
   clear R1 HBX
   have F:=R2.out.facts
   simp only [St.Facts,cellFacts,apartFacts,and_true] at F
   gi_wp2
   have R3:=R2.out.set 1 (o:=0) (v:=.int .i64 1) rfl
   refine ⟨R3.loop,.inl ⟨rfl,R3.put _,?_⟩⟩
   have hlt:=R2.out.lt (w.heap.size + 1,#[.int .i64 0],3) (by simp)
   simp only at hlt
   exact (World.putObj_heap_other (by omega)).trans ((Below.heap_setCell _ _ _ _ (by simp; omega)).trans HB2.out)
  ·rintro e W2 ⟨hv,h | h⟩
   ·exact ⟨hv,.inl ⟨⟨_,h⟩,h.loop⟩⟩
   ·exact h.elim
 ·rintro rc W o ⟨lp,h⟩ hl
  have R1:=Lib.hid (h.put o)
  clear h hl
  generalize W.putObj (W0.heap.size + 1) (.loop o) = W1 at *
  have F:=R1.out.facts
  simp only [St.Facts,cellFacts,apartFacts,and_true] at F
  gi_wp2
  refine ⟨by simp,.inl ⟨_,_,rfl,run_takeDeferred R1.out.dfr,?_⟩⟩
  exact ⟨_,results_tmp rfl _ _ _,rfl,R1.out.fin.below⟩
 ·rintro rc W o h hl
  exact h.elim
theorem xsize_leaf (op xn : Int) (v : V) (a : Option Addr) (c : Nat) (w : World) : Calls Tryz.prog 260 #[.agg #[.int .i64 op,.int .i64 xn,.int .i64 v.k,.int .i64 v.n,.string v.s,.slice a 0 c]] w (Says (.int .i64 1) w):=callsIn_wide.1 (xsize_in op xn v a c w)
attribute [local go_sem] Oper.semAt_some
set_option maxRecDepth 100000 in
set_option maxHeartbeats 2000000 in
theorem arity_col (w : World) : Calls Tryz.prog 280 #[.int .i64 1] w (Says (.int .i64 0) w):=by
 go_enter Tryz.func280,Tryz.ntmps280
 go_wp2_with fail
 go_returns
 exact ⟨rfl,Below.refl _ _⟩
set_option maxRecDepth 100000 in
set_option maxHeartbeats 2000000 in
theorem xformed_col (n : Int) (a : Option Addr) (c : Nat) (w : World) : Calls Tryz.prog 262 #[.agg #[.int .i64 1,.int .i64 n,.int .i64 0,.int .i64 0,.string ⟨#[]⟩,.slice a 0 c]] w (Says (.bool true) w):=by
 have S0 : Hid (St w (w.alloc (.cells #[.int .i64 1,.int .i64 n,.int .i64 0,.int .i64 0,.string ⟨#[]⟩,.slice a 0 c] 69)) [(w.heap.size,#[.int .i64 1,.int .i64 n,.int .i64 0,.int .i64 0,.string ⟨#[]⟩,.slice a 0 c],69)]):=St.alloc (St.start w)
 have C : Hid (∀ (W : World) (d : Nat) (os : Array Obj),Calls Tryz.prog 280 #[.int .i64 1] (grow (redrawn W d) os) fun e w'=>e = .returned (.int .i64 0)∧Laid (grow (redrawn W d) os) w'):=fun W d os=>arity_col _
 go_enter Tryz.func262,Tryz.ntmps262
 go_upto_region 1 with fail
 refine St.gen S0.out ?_
 intro w1 S1
 clear S0
 have F1:=S1.out.factsG
 simp only [St.FactsG,cellFactsG,and_true] at F1
 by_cases hn : n = 0
 all_goals
  have hn1 : (n == 0) = decide (n = 0):=rfl
  simp only [hn,decide_true,decide_false] at hn1
  try subst hn
  refine wp_region_mixed 29 [(0,false),(1,false),(2,false),(3,false),(4,false),(5,false),(6,false),(7,false),(8,false),(9,false),(10,false),(11,false),(12,false),(13,false),(14,false),(15,false),(16,false),(17,false),(18,false),(19,false),(20,false),(21,false),(22,false),(23,false),(24,false),(25,false),(26,false),(27,false),(28,false)] (by kernel_rfl) (by kernel_rfl) ?_
  repeat (refine wpM_mild rfl (fun K hK=>?_); go_simp; first | (refine hK _ ?_; clear hK K) | (apply Exists.intro; refine ⟨fun _=>?_,hK _ ?_⟩; (exact C.out _ _ _); clear hK K))
  refine wpM_end ?_
  intro w2 hb2 _
  have HB2:=Lib.hid (S1.out.kept hb2).below
  clear hb2 C F1 S1
  go_wp2_with fail
  go_returns
  exact ⟨rfl,HB2.out⟩
set_option maxRecDepth 100000 in
set_option maxHeartbeats 2000000 in
theorem kind_col (Q : Nat→Prop) (kinds : List Int) (kv : Value) (n : Int) (a : Option Addr) (c : Nat) (k : Int) (w : World) (hv : RSl intE Q w kv kinds) (h0 : 0≤n) (hn : kinds[n.toNat]? = some k) (hk : 0≤k∧k≤3) (hl : kinds.length≤1000000) :
  Calls Tryz.prog 263 #[kv,.agg #[.int .i64 1,.int .i64 n,.int .i64 0,.int .i64 0,.string ⟨#[]⟩,.slice a 0 c]] w (Says (.tuple #[.int .i64 k,.int .i64 0]) w):=by
 have hlt : n.toNat < kinds.length:=(List.getElem?_eq_some_iff.1 hn).1
 have hlti : n < (kinds.length : Int):=by omega
 obtain ⟨b,o,cap,cs,rfl,hin,hat⟩:=hv.at hn
 have e : cs = [.int .i64 k]:=hin
 subst e
 have z0:=hat 0 _ rfl
 simp only [show intE.k = 1 from rfl,Nat.mul_one,Nat.add_zero] at z0
 have S0 : Hid (St w ((w.alloc (.cells #[.int .i64 1,.int .i64 n,.int .i64 0,.int .i64 0,.string ⟨#[]⟩,.slice a 0 c] 69)).alloc (.cells #[.slice none 0 0] 61)) [(w.heap.size + 1,#[.slice none 0 0],61),(w.heap.size,#[.int .i64 1,.int .i64 n,.int .i64 0,.int .i64 0,.string ⟨#[]⟩,.slice a 0 c],69)]):=by
  have:=St.alloc (St.alloc (St.start w) (cs:=#[.int .i64 1,.int .i64 n,.int .i64 0,.int .i64 0,.string ⟨#[]⟩,.slice a 0 c]) (t:=69)) (cs:=#[.slice none 0 0]) (t:=61)
  simp only [World.size_alloc] at this
  exact this
 have hmf : ∀ (fn : Fn) (first cap : Array Value) (w : World),(Instr.makeFunc fn first cap).run Tryz.prog w = .ok (.func fn first cap) w:=fun _ _ _ _=>rfl
 have hb0:=S0.out.below.cell_kept z0
 have hg1 : ¬ n < 0:=by omega
 have hg2 : ¬ (kinds.length : Int)≤n:=by omega
 have hg3 : ¬ k < 0:=by omega
 have hg4 : ¬ 3 < k:=by omega
 clear hat hin hv z0 hn
 go_enter Tryz.func263,Tryz.ntmps263
 go_upto_region 2 with fail
 refine wp_gen (fun W=>St w W [(w.heap.size + 1,#[.slice none 0 0],61),(w.heap.size,#[.int .i64 1,.int .i64 n,.int .i64 0,.int .i64 0,.string ⟨#[]⟩,.slice a 0 c],69)]∧W.cell? ⟨b,o + n.toNat,none⟩ = some (.int .i64 k)) ⟨S0.out,hb0⟩ ?_
 rintro w1 ⟨S1',z1⟩
 have S1:=Lib.hid S1'
 clear S1' S0 hb0
 have F1:=S1.out.facts
 simp only [St.Facts,cellFacts,apartFacts,and_true] at F1
 go_wp2_with fail
 refine wp_loop_rounds 1 ?_
 rw [rounds_succ]
 go_wp2_with fail
 go_returns
 exact ⟨rfl,S1.out.below⟩
set_option maxRecDepth 100000 in
set_option maxHeartbeats 4000000 in
theorem check_col_in (Q : Nat→Prop) (kinds : List Int) (kv : Value) (n : Int) (a : Option Addr) (c : Nat) (k : Int) (w : World) (hv : RSl intE Q w kv kinds) (h0 : 0≤n) (hn : kinds[n.toNat]? = some k) (hk : 0≤k∧k≤3) (hl : kinds.length≤1000000) :
  CallsIn Fence.wide 5 Tryz.prog 241 #[kv,.agg #[.int .i64 1,.int .i64 n,.int .i64 0,.int .i64 0,.string ⟨#[]⟩,.slice a 0 c]] w (Says (.tuple #[.int .i64 k,.int .i64 0]) w):=by
 have CK : Hid (∀ W,Below w.heap.size w W→Calls Tryz.prog 263 #[kv,.agg #[.int .i64 1,.int .i64 n,.int .i64 0,.int .i64 0,.string ⟨#[]⟩,.slice a 0 c]] W (Says (.tuple #[.int .i64 k,.int .i64 0]) W)):=fun W hW=>kind_col Q kinds kv n a c k W (hv.kept (by decide) hW) h0 hn hk hl
 obtain ⟨ka,kc,rfl⟩:=hv.slice
 have S0 : Hid (St w (((w.alloc (.cells #[.int .i64 1,.int .i64 n,.int .i64 0,.int .i64 0,.string ⟨#[]⟩,.slice a 0 c] 69)).alloc (.cells #[.int .i64 0] 3)).alloc (.cells #[.int .i64 0] 24)) [(w.heap.size + 2,#[.int .i64 0],24),(w.heap.size + 1,#[.int .i64 0],3),(w.heap.size,#[.int .i64 1,.int .i64 n,.int .i64 0,.int .i64 0,.string ⟨#[]⟩,.slice a 0 c],69)]):=by
  have:=St.alloc (St.alloc (St.alloc (St.start w) (cs:=#[.int .i64 1,.int .i64 n,.int .i64 0,.int .i64 0,.string ⟨#[]⟩,.slice a 0 c]) (t:=69)) (cs:=#[.int .i64 0]) (t:=3)) (cs:=#[.int .i64 0]) (t:=24)
  simp only [World.size_alloc,Nat.add_assoc,Nat.reduceAdd] at this
  exact this
 clear hv h0 hn hk hl
 refine callsIn_of_wp_marks Tryz.func241 rfl trivial ?_ rfl
 simp only [Tryz.ntmps241,List.size_toArray,List.length_cons,List.length_nil,Nat.reduceAdd,Nat.reduceSub,Array.replicate_succ,Array.replicate_zero,List.push_toArray,List.append_toArray,List.nil_append,List.cons_append]
 gi_wp2
 refine ⟨trivial,?_⟩
 refine CallsIn.mono (callsIn_wide.2 (xsize_leaf 1 n V.null a c _)) ?_
 rintro e w1 ⟨rfl,hb1⟩
 have S1:=Lib.hid (S0.out.kept hb1)
 clear hb1 S0
 have F:=S1.out.facts
 simp only [St.Facts,cellFacts,apartFacts,and_true] at F
 gi_wp2
 refine ⟨trivial,?_⟩
 refine CallsIn.mono (callsIn_wide.2 (nodes_any 1 n V.null a 0 c _)) ?_
 rintro e w2 ⟨rfl,rfl⟩
 gi_wp2
 refine St.genIn (St.alloc S1.out) ?_
 intro W0 S2
 have hW0:=S2.out.below.size
 clear F S1
 refine wpIn_range_wide (by decide) (gf:=278) (lb:=#[.pointer (some ⟨w1.heap.size,0,none⟩)]) rfl (enters_of Tryz.func278 (by kernel_rfl) rfl)
  (fun rc W=>∃ lp,RgI w W0.heap.size lp [(w1.heap.size,#[.int .i64 1,.int .i64 n,.int .i64 0,.int .i64 0,.string ⟨#[]⟩,.slice a 0 c],69),(w.heap.size + 2,#[.int .i64 0],24),(w.heap.size + 1,#[.int .i64 0],3),(w.heap.size,#[.int .i64 1,.int .i64 n,.int .i64 0,.int .i64 0,.string ⟨#[]⟩,.slice a 0 c],69)] W) (fun _ _=>False) ?_ ?_ ?_
 ·intro rc hround
  have HR:=Lib.hid hround
  clear hround
  have R0:=RgI.start S2.out (rc .ready none)
  have hl:=R0.loop
  refine CallsIn.mono (nodes1_leaf 4 (W0.heap.size + 1) w1.heap.size 1 n V.null a c (fun W=>RgI w W0.heap.size (rc .ready none) [(w1.heap.size,#[.int .i64 1,.int .i64 n,.int .i64 0,.int .i64 0,.string ⟨#[]⟩,.slice a 0 c],69),(w.heap.size + 2,#[.int .i64 0],24),(w.heap.size + 1,#[.int .i64 0],3),(w.heap.size,#[.int .i64 1,.int .i64 n,.int .i64 0,.int .i64 0,.string ⟨#[]⟩,.slice a 0 c],69)] W) (fun _=>False) _ (R0.st.blk 0 rfl) ?_) ?_
  ·intro m
   have R1:=Lib.hid (R0.kept ((Below.refl _ _).alloc (Nat.le_refl _) (.cells #[.int .i64 1,.int .i64 n,.int .i64 0,.int .i64 0,.string ⟨#[]⟩,.slice a 0 c] 69)))
   have hbx:=World.alloc_heap_new ((W0.alloc (.deferred (some []))).alloc (.loop (rc .ready none))) (.cells #[.int .i64 1,.int .i64 n,.int .i64 0,.int .i64 0,.string ⟨#[]⟩,.slice a 0 c] 69)
   have HBX:=Lib.hid hbx
   have hbD : ((W0.alloc (.deferred (some []))).alloc (.loop (rc .ready none))).heap.size = W0.heap.size + 2:=by simp
   show YieldAt Fence.wide m Tryz.prog (W0.heap.size + 1) #[.agg #[.int .i64 1,.int .i64 n,.int .i64 0,.int .i64 0,.string ⟨#[]⟩,.slice a 0 c]] (((W0.alloc (.deferred (some []))).alloc (.loop (rc .ready none))).alloc (.cells #[.int .i64 1,.int .i64 n,.int .i64 0,.int .i64 0,.string ⟨#[]⟩,.slice a 0 c] 69)) fun e W'=>(e = .returned (.bool true)∧RgI w W0.heap.size (rc .ready none) [(w1.heap.size,#[.int .i64 1,.int .i64 n,.int .i64 0,.int .i64 0,.string ⟨#[]⟩,.slice a 0 c],69),(w.heap.size + 2,#[.int .i64 0],24),(w.heap.size + 1,#[.int .i64 0],3),(w.heap.size,#[.int .i64 1,.int .i64 n,.int .i64 0,.int .i64 0,.string ⟨#[]⟩,.slice a 0 c],69)] W'∧W'.heap[((W0.alloc (.deferred (some []))).alloc (.loop (rc .ready none))).heap.size]? = some (.cells #[.int .i64 1,.int .i64 n,.int .i64 0,.int .i64 0,.string ⟨#[]⟩,.slice a 0 c] 69 (0,0)))∨(e = .returned (.bool false)∧False)
   generalize ((W0.alloc (.deferred (some []))).alloc (.loop (rc .ready none))).heap.size = bx at *
   generalize ((W0.alloc (.deferred (some []))).alloc (.loop (rc .ready none))).alloc (.cells #[.int .i64 1,.int .i64 n,.int .i64 0,.int .i64 0,.string ⟨#[]⟩,.slice a 0 c] 69) = W1 at *
   clear R0 hl hbx
   refine yieldDepth m (HR.out W1 _ _ R1.out.loop rfl ?_)
   clear HR
   gi_wp2
   have R1b:=Lib.hid (R1.out.kept ((Below.refl _ _).alloc (Nat.le_refl _) (.cells #[.int .i64 1,.int .i64 n,.int .i64 0,.int .i64 0,.string ⟨#[]⟩,.slice a 0 c] 69)))
   have HB1 : Hid ((W1.alloc (.cells #[.int .i64 1,.int .i64 n,.int .i64 0,.int .i64 0,.string ⟨#[]⟩,.slice a 0 c] 69)).heap[bx]? = some (.cells #[.int .i64 1,.int .i64 n,.int .i64 0,.int .i64 0,.string ⟨#[]⟩,.slice a 0 c] 69 (0,0))):=(Below.heap_alloc _ _ _ (Array.getElem?_eq_some_iff.1 HBX.out).1).trans HBX.out
   have HY : Hid ((W1.alloc (.cells #[.int .i64 1,.int .i64 n,.int .i64 0,.int .i64 0,.string ⟨#[]⟩,.slice a 0 c] 69)).heap[W1.heap.size]? = some (.cells #[.int .i64 1,.int .i64 n,.int .i64 0,.int .i64 0,.string ⟨#[]⟩,.slice a 0 c] 69 (0,0))):=World.alloc_heap_new _ _
   have hyb : bx < W1.heap.size:=(Array.getElem?_eq_some_iff.1 HBX.out).1
   refine ⟨R1b.out.loop,?_⟩
   have R2:=Lib.hid (R1b.out.put (rc .busy none))
   have HB2 : Hid (((W1.alloc (.cells #[.int .i64 1,.int .i64 n,.int .i64 0,.int .i64 0,.string ⟨#[]⟩,.slice a 0 c] 69)).putObj (W0.heap.size + 1) (.loop (rc .busy none))).heap[bx]? = some (.cells #[.int .i64 1,.int .i64 n,.int .i64 0,.int .i64 0,.string ⟨#[]⟩,.slice a 0 c] 69 (0,0))):=(World.putObj_heap_other (by omega)).trans HB1.out
   have HY2 : Hid (((W1.alloc (.cells #[.int .i64 1,.int .i64 n,.int .i64 0,.int .i64 0,.string ⟨#[]⟩,.slice a 0 c] 69)).putObj (W0.heap.size + 1) (.loop (rc .busy none))).heap[W1.heap.size]? = some (.cells #[.int .i64 1,.int .i64 n,.int .i64 0,.int .i64 0,.string ⟨#[]⟩,.slice a 0 c] 69 (0,0))):=(World.putObj_heap_other (by omega)).trans HY.out
   generalize W1.heap.size = bv at *
   generalize (W1.alloc (.cells #[.int .i64 1,.int .i64 n,.int .i64 0,.int .i64 0,.string ⟨#[]⟩,.slice a 0 c] 69)).putObj (W0.heap.size + 1) (.loop (rc .busy none)) = Wb at *
   clear R1 R1b HBX HB1 HY
   have F:=R2.out.facts
   simp only [St.Facts,cellFacts,apartFacts,and_true] at F
   have G:=cellFacts_of HY2.out (#[.int .i64 1,.int .i64 n,.int .i64 0,.int .i64 0,.string ⟨#[]⟩,.slice a 0 c] : Array Value).toList 0 (fun j=>by simp)
   simp only [cellFacts,and_true] at G
   gi_wp2
   refine ⟨trivial,?_⟩
   refine CallsIn.mono (CallsIn.inRound _ (callsIn_wide.2 (xformed_col n a c _))) ?_
   rintro e w3 ⟨rfl,hb3⟩
   have R3:=Lib.hid (R2.out.kept hb3)
   have HB3 : Hid (w3.heap[bx]? = some (.cells #[.int .i64 1,.int .i64 n,.int .i64 0,.int .i64 0,.string ⟨#[]⟩,.slice a 0 c] 69 (0,0))):=hb3.blk_kept HB2.out
   clear hb3 F G HY2 HB2 R2
   gi_wp2
   exact ⟨R3.out.loop,.inl ⟨rfl,R3.out.put _,(World.putObj_heap_other (by omega)).trans HB3.out⟩⟩
  ·rintro e W2 ⟨hv,h | h⟩
   ·exact ⟨hv,.inl ⟨⟨_,h⟩,h.loop⟩⟩
   ·exact h.elim
 ·rintro rc W o ⟨lp,h⟩ hl
  have R1:=Lib.hid (h.put o)
  clear h hl
  generalize W.putObj (W0.heap.size + 1) (.loop o) = W1 at *
  have F:=R1.out.facts
  simp only [St.Facts,cellFacts,apartFacts,and_true] at F
  gi_wp2
  refine ⟨trivial,?_⟩
  refine CallsIn.mono (callsIn_wide.2 (CK.out _ R1.out.st.below)) ?_
  rintro e w3 ⟨rfl,hb3⟩
  have R3:=Lib.hid (R1.out.kept hb3)
  clear F hb3 R1
  have F:=R3.out.facts
  simp only [St.Facts,cellFacts,apartFacts,and_true] at F
  gi_wp2
  have R4:=Lib.hid (RgI.set 1 (o:=0) (v:=.int .i64 0) (RgI.set 2 (o:=0) (v:=.int .i64 k) R3.out rfl) rfl)
  refine ⟨by simp,.inl ⟨_,_,rfl,run_takeDeferred R4.out.dfr,?_⟩⟩
  have S5:=R4.out.fin
  have F5:=S5.facts
  simp only [St.Facts,cellFacts,apartFacts,and_true,List.set_cons_zero,List.set_cons_succ,List.setIfInBounds_toArray] at F5
  exact ⟨.tuple #[.int .i64 k,.int .i64 0],by simp [results,Tryz.results241,go_sem,F5],rfl,S5.below⟩
 ·rintro rc W o h hl
  exact h.elim
theorem check_col (Q : Nat→Prop) (kinds : List Int) (kv : Value) (n : Int) (a : Option Addr) (c : Nat) (k : Int) (w : World) (hv : RSl intE Q w kv kinds) (h0 : 0≤n) (hn : kinds[n.toNat]? = some k) (hk : 0≤k∧k≤3) (hl : kinds.length≤1000000) :
  Calls Tryz.prog 241 #[kv,.agg #[.int .i64 1,.int .i64 n,.int .i64 0,.int .i64 0,.string ⟨#[]⟩,.slice a 0 c]] w (Says (.tuple #[.int .i64 k,.int .i64 0]) w):=callsIn_wide.1 (check_col_in Q kinds kv n a c k w hv h0 hn hk hl)
def intVals (l : List Int) : List Value:=l.map fun n=>.int .i64 n
theorem intVals_lIn {Q : Nat→Prop} {w : World} : ∀ l : List Int,LIn intE Q w l (intVals l)
 | []=>rfl
 | n :: l=>⟨[.int .i64 n],intVals l,rfl,rfl,intVals_lIn l⟩
theorem lIn_intVals {Q : Nat→Prop} {w : World} : ∀ {l : List Int} {acs : List Value},LIn intE Q w l acs→acs = intVals l
 | [],acs,h=>h
 | n :: l,acs,h=>by
  obtain ⟨c1,c2,rfl,h1,h2⟩:=h
  have e : c1 = [.int .i64 n]:=h1
  rw [e,lIn_intVals h2]; rfl
theorem slAt_fresh {W : World} {cs : Array Value} {t : TypeId} {n cap : Nat} (hc : n≤cap) : SlAt (W.alloc (.cells cs t)) (.slice (some ⟨W.heap.size,0,none⟩) n cap) n cs.toList:=by
 refine ⟨_,cap,rfl,hc,fun _=>⟨W.heap.size,0,rfl,fun j u hu=>?_⟩⟩
 simp only [World.cell?,World.alloc_heap_new,Nat.zero_add]
 simpa using hu
def RetInts (w : World) (out : List Int) (e : Ending) (w' : World) : Prop:=∃ v,e = .returned (.tuple #[v,.int .i64 0])∧RSl intE (w.heap.size≤·) w' v out∧Below w.heap.size w w'
theorem retInts_of {w W : World} {v : Value} {out : List Int} (h : W.ownsRow w.heap.size 3 1 v out.length (intVals out)) (hb : Below w.heap.size w W) : RetInts w out (.returned (.tuple #[v,.int .i64 0])) W:=
 ⟨v,rfl,⟨intVals out,h.slIn,intVals_lIn out⟩,hb⟩
theorem below_grows {B : Nat} {w W W' : World} {v : Value} (hb : Below B w W) (hg : W.grownBy W' v.ownBlock) (hv : ∀ g,v.ownBlock = some g→B≤g) (hB : B≤W.heap.size) : Below B w W':=by
 have ht:=Turn.of_grown hg
 exact ⟨ht.os.trans hb.os,ht.tape.trans hb.tape,ht.output.trans hb.output,Nat.le_trans hb.size ht.size,fun k hk=>(ht.block k (by omega) (fun e=>by have:=hv k e; omega)).trans (hb.block k hk)⟩
theorem infoInt : (Tryz.prog.info? 3).map (fun i=>(i.zero,i.size,i.bytes)) = some (some (.int .i64 0),1,8):=by kernel_rfl
def pick (ins ns : List Int) : List Int:=ns.map fun n=>ins.getD n.toNat 0
theorem pick_take {ins ns : List Int} {k : Nat} {n : Int} (h : ns[k]? = some n) : pick ins (ns.take (k + 1)) = pick ins (ns.take k) ++ [ins.getD n.toNat 0]:=by
 obtain ⟨hk,rfl⟩:=List.getElem?_eq_some_iff.1 h
 unfold pick
 rw [List.take_succ_eq_append_getElem hk,List.map_append]; rfl
set_option maxRecDepth 100000 in
set_option maxHeartbeats 4000000 in
theorem projects_cols (Q : Nat→Prop) (ins ns : List Int) (kv ev : Value) (w : World) (hv : RSl intE Q w kv ins) (he : RSl xpE Q w ev (ns.map Xp.col)) (hl : ins.length≤1000000) (hn : 1≤ns.length∧ns.length≤32)
  (hin : ∀ n ∈ ns,0≤n∧n.toNat < ins.length∧0≤ins.getD n.toNat 0∧ins.getD n.toNat 0≤3) : Calls Tryz.prog 204 #[kv,ev] w (RetInts w (pick ins ns)):=by
 have HV:=Lib.hid hv
 have HE:=Lib.hid he
 have HI:=Lib.hid hin
 obtain ⟨ka,kc,rfl⟩:=hv.slice
 obtain ⟨ea,ec,rfl⟩:=he.slice
 rw [List.length_map]
 have h1 : ¬ (ns.length = 0):=by omega
 have h1i : ((ns.length : Int) == 0) = false:=by rw [beq_eq_false_iff_ne]; omega
 have h1n : ns ≠ []:=by rintro rfl; simp at hn
 have h2i : ¬ (32 < (ns.length : Int)):=by omega
 clear hv he hin
 go_enter Tryz.func204,Tryz.ntmps204
 go_wp2_with fail
 go_loopw [6,8,9,10,21] (fun ov _ _ _ i wr=>∃ k : Nat,k≤ns.length∧i = .int .i64 k∧Hid (wr.ownsRow w.heap.size 3 1 ov k (intVals (pick ins (ns.take k))))∧Hid (Below w.heap.size w wr)) (fun _ _ _ _ i _=>ns.length - (intOf i).toNat)
 case atStart=>exact ⟨0,by omega,rfl,World.ownsRow_nil _ _ _ _,Below.refl _ _⟩
 case round=>
  obtain ⟨k,hk,rfl,HO,HB⟩:=hrel
  by_cases hlt : k < ns.length
  ·obtain ⟨n,hx⟩ : ∃ x,ns[k]? = some x:=⟨ns[k],by simp [hlt]⟩
   obtain ⟨b,o,cap,cs,hbo,hc,hat⟩:=(HE.out.kept (by decide) HB.out).at (k:=k) (a:=Xp.col n) (by rw [List.getElem?_map,hx]; rfl)
   rw [List.length_map] at hbo
   injection hbo with e1 _ e2
   subst e1
   subst e2
   obtain ⟨v0,rfl,hs0⟩:=xpIn_iff.1 (show XpIn Q wr (.mk 1 n V.null []) cs from hc)
   obtain ⟨ad,ac,rfl⟩:=hs0.slice
   have x0:=hat 0 _ rfl
   have x1:=hat 1 _ rfl
   have x2:=hat 2 _ rfl
   have x3:=hat 3 _ rfl
   have x4:=hat 4 _ rfl
   have x5:=hat 5 _ rfl
   simp only [show xpE.k = 6 from rfl,Nat.add_zero,List.length_nil] at x0 x1 x2 x3 x4 x5
   have hst:=pick_take (ins:=ins) hx
   have hf:=HI.out n (List.mem_of_getElem? hx)
   have HST:=Lib.hid hst
   have CK : Hid (∀ W,Below w.heap.size w W→Calls Tryz.prog 241 #[.slice ka ins.length kc,.agg #[.int .i64 1,.int .i64 n,.int .i64 V.null.k,.int .i64 V.null.n,.string V.null.s,.slice ad 0 ac]] W (Says (.tuple #[.int .i64 (ins.getD n.toNat 0),.int .i64 0]) W)):=
    fun W hW=>check_col Q ins _ n ad ac _ W (HV.out.kept (by decide) hW) hf.1 (by rw [List.getD_eq_getElem?_getD,List.getElem?_eq_getElem hf.2.1]; rfl) hf.2.2 hl
   generalize ins.getD n.toNat 0 = kd at *
   have HB1:=Lib.hid (HB.out.alloc HB.out.size (.cells #[.int .i64 1,.int .i64 n,.int .i64 V.null.k,.int .i64 V.null.n,.string V.null.s,.slice ad 0 ac] 69))
   have HO1:=Lib.hid (HO.out.later ((Below.refl _ _).alloc (Nat.le_refl _) (.cells #[.int .i64 1,.int .i64 n,.int .i64 V.null.k,.int .i64 V.null.n,.string V.null.s,.slice ad 0 ac] 69)))
   clear hat hc hs0 hst hf
   go_wp2_with fail
   refine Calls.mono (CK.out _ HB1.out) ?_
   rintro e w1 ⟨rfl,hb1⟩
   have HB2:=Lib.hid (HB1.out.step hb1)
   have HO2:=Lib.hid (HO1.out.later hb1)
   have hs2:=HB2.out.size
   clear hb1 x0 x1 x2 x3 x4 x5 HB HB1 HO HO1 CK
   go_wp2_with (refine wpList_append_at rfl (.tmp 34) (.tmp 36) 61 rfl 3 (.int .i64 0) 1 8 Tryz.underlying61 infoInt rfl (by decide) w.heap.size _ k (intVals (pick ins (ns.take k))) rfl (HO2.out.later ((Below.refl _ _).alloc (Nat.le_refl _) _)) _ 1 [.int .i64 kd] rfl (by decide) (slAt_fresh (by decide)) rfl (by simp [Value.oneCell']) (by omega) (by unfold maxLen; omega) (by simp; omega) ?_; intro v' w3 hown hgr hblk hsl; obtain ⟨g,cp,rfl⟩:=hsl)
   have HB3 : Hid (Below w.heap.size w w3):=below_grows (HB2.out.alloc hs2 _) hgr (fun g hg=>(World.ownsRow.lt HO2.out g hg).1) (by simp; omega)
   have HO3 : Hid (w3.ownsRow w.heap.size 3 1 (.slice (some ⟨g,0,none⟩) (k + 1) cp) (k + 1) (intVals (pick ins (ns.take (k + 1))))):=by
    rw [HST.out]
    unfold intVals at hown ⊢
    rw [List.map_append]
    exact hown
   clear hown hgr hblk HB2 HO2
   go_wp2_with fail
   go_roundw
   case rel=>exact ⟨k + 1,by omega,by go_num,HO3.out,HB3.out⟩
   case measure=>simp [intOf]; omega
  ·obtain rfl : k = ns.length:=by omega
   go_wp2_with fail
   go_returns
   have:=HO.out
   rw [List.take_length] at this
   exact retInts_of (by rw [show (pick ins ns).length = ns.length by simp [pick]]; exact this) HB.out
end Go.Proofs.YtimoefagohifaaaGreatDoor
namespace Go
open Go.Sort Go.RowKit
theorem nodup_set {l : List Nat} {i a : Nat} (hn : l.Nodup) (ha : ∀ j,j ≠ i→l[j]? ≠ some a) : (l.set i a).Nodup:=by
 refine List.pairwise_iff_getElem.2 fun j k hj hk hjk e=>?_
 simp only [List.length_set] at hj hk
 rw [List.getElem_set,List.getElem_set] at e
 have hp:=List.pairwise_iff_getElem.1 hn j k hj hk hjk
 by_cases h1 : i = j
 ·subst h1
  have h2 : i ≠ k:=by omega
  rw [if_pos rfl,if_neg h2] at e
  exact ha k (Ne.symm h2) (by rw [List.getElem?_eq_getElem hk,e])
 ·rw [if_neg h1] at e
  by_cases h2 : i = k
  ·subst h2
   rw [if_pos rfl] at e
   exact ha j (Ne.symm h1) (by rw [List.getElem?_eq_getElem hj,e])
  ·rw [if_neg h2] at e
   exact hp e
theorem St.grewNil {w0 w w' : World} {L : List Blk} {g : Nat} {cur : Array Value} {e : TypeId} (h : St w0 w L) (hg : w.grownBy w' none) (hge : w.heap.size≤g) (hb : w'.heap[g]? = some (.cells cur e (0,0))) : St w0 w' ((g,cur,e) :: L):=by
 have hk:=h.kept ((Turn.of_grown hg).mono (N:=fun _=>False) (fun i _ hi=>by cases hi)).below
 refine ⟨hk.below,fun x hx=>?_,?_⟩
 ·rcases List.mem_cons.1 hx with rfl | hx
  ·exact ⟨Nat.le_trans h.below.size hge,hb⟩
  ·exact hk.own x hx
 ·simp only [List.map_cons,List.nodup_cons]
  refine ⟨fun hm=>?_,h.apart⟩
  obtain ⟨x,hx,e⟩:=List.mem_map.1 hm
  have:=(Array.getElem?_eq_some_iff.1 (h.own x hx).2).1
  omega
theorem St.grewAt {w0 w w' : World} {L : List Blk} {i g g' : Nat} {cs cur : Array Value} {t : TypeId} (h : St w0 w L) (hi : L[i]? = some (g,cs,t)) (hg : w.grownBy w' (some g)) (hge : g' = g∨w.heap.size≤g') (hb : w'.heap[g']? = some (.cells cur t (0,0))) : St w0 w' (L.set i (g',cur,t)):=by
 have hgo:=h.own _ (List.mem_of_getElem? hi)
 have ht:=Turn.of_grown hg
 have hsz:=h.below.size
 refine ⟨⟨ht.os.trans h.below.os,ht.tape.trans h.below.tape,ht.output.trans h.below.output,Nat.le_trans hsz ht.size,fun k hk=>?_⟩,fun x hx=>?_,?_⟩
 ·refine (ht.block k (by omega) (fun e=>?_)).trans (h.below.block k hk)
  have e' : g = k:=by simpa using e
  have:=hgo.1
  simp only at this
  omega
 ·obtain ⟨j,hj⟩:=List.mem_iff_getElem?.1 hx
  rw [List.getElem?_set] at hj
  split at hj
  ·split at hj
   ·cases hj
    refine ⟨?_,hb⟩
    rcases hge with rfl | hge
    ·exact hgo.1
    ·exact Nat.le_trans hsz hge
   ·cases hj
  ·rename_i hne
   have hox:=h.own x (List.mem_of_getElem? hj)
   have hlt:=(Array.getElem?_eq_some_iff.1 hox.2).1
   have hap:=nodup_idx h.apart hi hj hne
   refine ⟨hox.1,?_⟩
   rw [ht.block x.1 hlt (fun e=>hap (by simpa using e))]
   exact hox.2
 ·rw [List.map_set]
  refine nodup_set h.apart (fun j hne e=>?_)
  rw [List.getElem?_map] at e
  obtain ⟨x,hj,e⟩:=Option.map_eq_some_iff.1 e
  have hox:=h.own x (List.mem_of_getElem? hj)
  have hlt:=(Array.getElem?_eq_some_iff.1 hox.2).1
  have hap:=nodup_idx h.apart hi hj (Ne.symm hne)
  rcases hge with rfl | hge
  ·exact hap e.symm
  ·omega
theorem row_cur {cur : Array Value} {k : Nat} {xs : List Value} (h : cur.toList.take k = xs) : cur = (xs ++ cur.toList.drop k).toArray:=by
 rw [← h,List.take_append_drop]
theorem wpList_append_nil {P : Program} {ops : Array Oper} {rest : List Oper} {o : Oper} {a : Act} {Q : Exit→Act→World→Prop} {W : World} (hgd : o.guard = none) (s x : Operand) (t : TypeId)
  (ho : o.op = .call { callee:=.builtin .append,args:=#[s,x],argTypes:=#[t,t] })
  (e : TypeId) (z : Value) (size bytes : Nat) (ht : P.underlying t = some (.slice e)) (hinfo : (P.info? e).map (fun i=>(i.zero,i.size,i.bytes)) = some (some z,size,bytes)) (hzs : z.cells.size = size) (hsz : 0 < size)
  {w0 : World} {L : List Blk} (S : St w0 W L) (hs : a.eval s = .slice none 0 0)
  (xv : Value) (m : Nat) (news : List Value) (hx : a.eval x = xv) (hm : 0 < m) (hsl : SlAt W xv m news) (hl : news.length = m * size) (h1 : ∀ u ∈ news,u.oneCell' = true)
  (hbytes : m * bytes≤140737488355328) (h63 : m≤maxLen)
  (h : ∀ g cap zs w',Hid (St w0 w' ((g,(news ++ zs).toArray,e) :: L))→m≤cap→cap≤maxLen→(news ++ zs).length = cap * size→wpList P ops Q rest (a.put o.dst (.slice (some ⟨g,0,none⟩) m cap)) w') : wpList P ops Q (o :: rest) a W:=by
 refine wpList_append_at hgd s x t ho e z size bytes ht hinfo hzs hsz W.heap.size (.slice none 0 0) 0 [] hs (World.ownsRow_nil _ _ _ _) xv m news hx hm hsl hl h1 (by simpa using hbytes) (by simpa using h63) (Nat.le_refl _) ?_
 intro v' w' hown hgr hblk hsl'
 obtain ⟨hl',⟨rfl,h0⟩ | ⟨g,cap,cur,rfl,hb,hbk,k1,k2,k3,k4⟩⟩:=hown
 ·omega
 ·rw [Nat.zero_add,List.nil_append] at k4
  have hc:=row_cur k4
  have S':=S.grewNil hgr hb hbk
  have hlen : cur.toList.length = cap * size:=by simpa using k3
  have:=h g cap (cur.toList.drop (m * size)) w' (by rw [← hc]; exact S') (by omega) k2 (by rw [← k4,List.take_append_drop]; exact hlen)
  rw [Nat.zero_add]
  exact this
theorem wpList_append_on {P : Program} {ops : Array Oper} {rest : List Oper} {o : Oper} {a : Act} {Q : Exit→Act→World→Prop} {W : World} (hgd : o.guard = none) (s x : Operand) (t : TypeId)
  (ho : o.op = .call { callee:=.builtin .append,args:=#[s,x],argTypes:=#[t,t] })
  (e : TypeId) (z : Value) (size bytes : Nat) (ht : P.underlying t = some (.slice e)) (hinfo : (P.info? e).map (fun i=>(i.zero,i.size,i.bytes)) = some (some z,size,bytes)) (hzs : z.cells.size = size) (hsz : 0 < size)
  {w0 : World} {L : List Blk} (i : Nat) {g n cap : Nat} {xs zs : List Value} (S : St w0 W L) (hi : L[i]? = some (g,(xs ++ zs).toArray,e)) (hs : a.eval s = .slice (some ⟨g,0,none⟩) n cap)
  (hxl : xs.length = n * size) (hnc : n≤cap) (hcm : cap≤maxLen) (hzl : (xs ++ zs).length = cap * size)
  (xv : Value) (m : Nat) (news : List Value) (hx : a.eval x = xv) (hm : 0 < m) (hsl : SlAt W xv m news) (hl : news.length = m * size) (h1 : ∀ u ∈ news,u.oneCell' = true)
  (hbytes : (n + m) * bytes≤140737488355328) (h63 : n + m≤maxLen)
  (h : ∀ g' cap' zs' w',Hid (St w0 w' (L.set i (g',(xs ++ news ++ zs').toArray,e)))→n + m≤cap'→cap'≤maxLen→(xs ++ news ++ zs').length = cap' * size→wpList P ops Q rest (a.put o.dst (.slice (some ⟨g',0,none⟩) (n + m) cap')) w') : wpList P ops Q (o :: rest) a W:=by
 have hgo:=S.own _ (List.mem_of_getElem? hi)
 have hown : W.ownsRow w0.heap.size e size (.slice (some ⟨g,0,none⟩) n cap) n xs:=by
  refine ⟨hxl,.inr ⟨g,cap,(xs ++ zs).toArray,rfl,hgo.1,hgo.2,hnc,hcm,by simpa using hzl,?_⟩⟩
  rw [← hxl]
  simp
 refine wpList_append_at hgd s x t ho e z size bytes ht hinfo hzs hsz w0.heap.size _ n xs hs hown xv m news hx hm hsl hl h1 hbytes h63 S.below.size ?_
 intro v' w' hown' hgr hblk hsl'
 obtain ⟨hl',⟨rfl,h0⟩ | ⟨g',cap',cur,rfl,hb,hbk,k1,k2,k3,k4⟩⟩:=hown'
 ·omega
 ·have hc:=row_cur k4
  have S':=S.grewAt hi hgr (g':=g') (by simpa [Value.ownBlock] using hblk) hbk
  have hlen : cur.toList.length = cap' * size:=by simpa using k3
  have:=h g' cap' (cur.toList.drop ((n + m) * size)) w' (by rw [← hc]; exact S') (by omega) k2 (by rw [← k4,List.take_append_drop]; exact hlen)
  exact this
end Go
namespace Go.Proofs.YtimoefagohifaaaGreatDoor
open Go.RowKit Go.Sort
def exTbl : Tbl:=⟨[116],[⟨[97],1,false⟩,⟨[98],1,false⟩],[],[]⟩
structure TblAt (w : World) (tb tq : Nat) (cb co cc : Nat) (ia : Option Addr) (ic : Nat) (ka : Option Addr) (kc : Nat) : Prop where
 t0 : w.cell? ⟨tb,tq,none⟩ = some (.string ⟨[116].toArray⟩)
 t1 : w.cell? ⟨tb,tq + 1,none⟩ = some (.slice (some ⟨cb,co,none⟩) 2 cc)
 t2 : w.cell? ⟨tb,tq + 2,none⟩ = some (.slice ia 0 ic)
 t3 : w.cell? ⟨tb,tq + 3,none⟩ = some (.slice ka 0 kc)
 a0 : w.cell? ⟨cb,co,none⟩ = some (.string ⟨[97].toArray⟩)
 a1 : w.cell? ⟨cb,co + 1,none⟩ = some (.int .i64 1)
 a2 : w.cell? ⟨cb,co + 2,none⟩ = some (.bool false)
 b0 : w.cell? ⟨cb,co + 3,none⟩ = some (.string ⟨[98].toArray⟩)
 b1 : w.cell? ⟨cb,co + 3 + 1,none⟩ = some (.int .i64 1)
 b2 : w.cell? ⟨cb,co + 3 + 2,none⟩ = some (.bool false)
theorem TblAt.kept {w w' : World} {tb tq cb co cc : Nat} {ia : Option Addr} {ic : Nat} {ka : Option Addr} {kc : Nat} (h : TblAt w tb tq cb co cc ia ic ka kc) (hb : Below w.heap.size w w') : TblAt w' tb tq cb co cc ia ic ka kc:=
 ⟨hb.cell_kept h.t0,hb.cell_kept h.t1,hb.cell_kept h.t2,hb.cell_kept h.t3,hb.cell_kept h.a0,hb.cell_kept h.a1,hb.cell_kept h.a2,hb.cell_kept h.b0,hb.cell_kept h.b1,hb.cell_kept h.b2⟩
theorem tblAt_of {Q : Nat→Prop} {w : World} {v : Value} (h : RSl tblE Q w v [exTbl]) : ∃ tb tq tc cb co cc ia ic ka kc,v = .slice (some ⟨tb,tq,none⟩) 1 tc∧TblAt w tb tq cb co cc ia ic ka kc:=by
 obtain ⟨tb,tq,tc,tcs,rfl,ht,hat⟩:=h.at (k:=0) rfl
 obtain ⟨ca,cc,ia,ic,ka,kc,rfl,hc⟩:=ht
 obtain ⟨cb,co,cc',ccs,hcb,hci,hcat⟩:=hc.at (k:=0) rfl
 injection hcb with e1 e3 e2
 subst e1 e2
 clear e3
 have e : ccs = [.string ⟨[97].toArray⟩,.int .i64 1,.bool false]:=hci
 subst e
 obtain ⟨cb',co',cc',ccs,hcb,hci,hcat'⟩:=hc.at (k:=1) rfl
 injection hcb with e1 e4 e2
 clear e4
 injection e1 with e1
 injection e1 with e1 e3
 subst e1 e2 e3
 have e : ccs = [.string ⟨[98].toArray⟩,.int .i64 1,.bool false]:=hci
 subst e
 have t0:=hat 0 _ rfl
 have t1:=hat 1 _ rfl
 have t2:=hat 2 _ rfl
 have t3:=hat 3 _ rfl
 have a0:=hcat 0 _ rfl
 have a1:=hcat 1 _ rfl
 have a2:=hcat 2 _ rfl
 have b0:=hcat' 0 _ rfl
 have b1:=hcat' 1 _ rfl
 have b2:=hcat' 2 _ rfl
 simp only [Nat.zero_mul,Nat.add_zero,Nat.one_mul,show colE.k = 3 from rfl] at t0 t1 t2 t3 a0 a1 a2 b0 b1 b2
 exact ⟨tb,tq,tc,cb,co,cc,ia,ic,ka,kc,rfl,⟨t0,t1,t2,t3,a0,a1,a2,b0,b1,b2⟩⟩
theorem bodyGen {P : Program} {fn : Func} {R : Ending→World→Prop} {x : Exit} {a : Act} {w : World} (R2 : World→Prop) (h : R2 w) (k : ∀ W,R2 W→bodyPost P fn R x a W) : bodyPost P fn R x a w:=k w h
set_option maxRecDepth 100000 in
set_option maxHeartbeats 8000000 in
theorem resolve_a (Q : Nat→Prop) (tv : Value) (na : Option Addr) (nc : Nat) (w : World) (ht : RSl tblE Q w tv [exTbl]) :
  Calls Tryz.prog 144 #[tv,.agg #[.int .i64 1,.string ⟨#[]⟩,.string ⟨[97].toArray⟩,.int .i64 0,.int .i64 0,.string ⟨#[]⟩,.slice na 0 nc]] w (Says (.tuple #[.agg #[.int .i64 1,.int .i64 0,.int .i64 0,.int .i64 0,.string ⟨#[]⟩,.slice none 0 0],.int .i64 0]) w):=by
 obtain ⟨tb,tq,tc,cb,co,cc,ia,ic,ka,kc,rfl,H⟩:=tblAt_of ht
 have HT:=Lib.hid H
 clear ht H
 go_enter Tryz.func144,Tryz.ntmps144
 go_upto_region 4 with fail
 refine St.gen (St.alloc (St.alloc (St.start _))) ?_
 intro w1 S1
 try (simp only [World.size_alloc] at S1)
 have F1:=S1.out.facts
 simp only [St.Facts,cellFacts,apartFacts,and_true] at F1
 obtain ⟨t0,t1,t2,t3,a0,a1,a2,b0,b1,b2⟩:=HT.out.kept S1.out.below
 go_upto_region 5 with fail
 refine wp_loop_rounds 2 ?_
 rw [rounds_succ]
 go_upto_region 8 with fail
 clear F1 t0 t1 t2 t3 a0 a1 a2 b0 b1 b2
 refine St.gen (St.alloc (S1.out)) ?_
 intro w2 S2
 try (simp only [List.set_cons_zero,List.set_cons_succ,List.setIfInBounds_toArray,World.size_alloc] at S2)
 clear S1
 have F2:=S2.out.facts
 simp only [St.Facts,cellFacts,apartFacts,and_true] at F2
 obtain ⟨t0,t1,t2,t3,a0,a1,a2,b0,b1,b2⟩:=HT.out.kept S2.out.below
 refine wp_loop_rounds 3 ?_
 rw [rounds_succ]
 go_upto_region 11 with fail
 clear F2 t0 t1 t2 t3 a0 a1 a2 b0 b1 b2
 refine St.gen (St.laid (S2.out)) ?_
 intro w3 S3
 try (simp only [List.set_cons_zero,List.set_cons_succ,List.setIfInBounds_toArray,World.size_alloc] at S3)
 clear S2
 have F3:=S3.out.facts
 simp only [St.Facts,cellFacts,apartFacts,and_true] at F3
 go_wp2_with (refine wpList_append_nil rfl (.tmp 50) (.tmp 52) 61 rfl 3 (.int .i64 0) 1 8 Tryz.underlying61 infoInt rfl (by decide) (St.laid S3.out) rfl _ 1 [.int .i64 0] rfl (by decide) (slAt_fresh (by decide)) rfl (by simp [Value.oneCell']) (by decide) (by unfold maxLen; decide) ?_; intro g cap zs w4 S4 hc1 hc2 hc3; simp only [List.cons_append,List.nil_append] at S4)
 clear F3 S3
 obtain ⟨t0,t1,t2,t3,a0,a1,a2,b0,b1,b2⟩:=HT.out.kept S4.out.below
 have hx : w4.heap[w.heap.size]? = some (.cells #[.int .i64 1,.string ⟨#[]⟩,.string ⟨[97].toArray⟩,.int .i64 0,.int .i64 0,.string ⟨#[]⟩,.slice na 0 nc] 44 (0,0)):=S4.out.blk 3 rfl
 have x2 : w4.cell? ⟨w.heap.size,2,none⟩ = some (.string ⟨[97].toArray⟩):=by simp only [World.cell?,hx]; rfl
 have x9:=block_lt_of_cell x2
 clear hx
 rw [rounds_succ]
 go_upto_region 12 with fail
 clear t0 t1 t2 t3 a0 a1 a2 b0 b1 b2 x2 x9
 refine St.gen (St.laid (S4.out)) ?_
 intro w5 S5
 try (simp only [List.set_cons_zero,List.set_cons_succ,List.setIfInBounds_toArray,World.size_alloc] at S5)
 clear S4
 have y0 : w5.cell? ⟨g,0,none⟩ = some (.int .i64 0):=by simp only [World.cell?,S5.out.blk 0 rfl]; rfl
 have y1:=block_lt_of_cell y0
 have hbo : w5.heap[w.heap.size + 1]? = some (.cells #[.int .i64 0,.int .i64 0,.int .i64 0,.int .i64 0,.string ⟨#[]⟩,.slice none 0 0] 69 (0,0)):=S5.out.blk 2 rfl
 have z0 : w5.cell? ⟨w.heap.size + 1,0,none⟩ = some (.int .i64 0):=by simp only [World.cell?,hbo]; rfl
 have f0 : w5.frozen? ⟨w.heap.size + 1,0,none⟩ = false:=by simp [World.frozen?,hbo]
 have z1 : w5.cell? ⟨w.heap.size + 1,1,none⟩ = some (.int .i64 0):=by simp only [World.cell?,hbo]; rfl
 have f1 : w5.frozen? ⟨w.heap.size + 1,1,none⟩ = false:=by simp [World.frozen?,hbo]
 have z2 : w5.cell? ⟨w.heap.size + 1,2,none⟩ = some (.int .i64 0):=by simp only [World.cell?,hbo]; rfl
 have f2 : w5.frozen? ⟨w.heap.size + 1,2,none⟩ = false:=by simp [World.frozen?,hbo]
 have z3 : w5.cell? ⟨w.heap.size + 1,3,none⟩ = some (.int .i64 0):=by simp only [World.cell?,hbo]; rfl
 have f3 : w5.frozen? ⟨w.heap.size + 1,3,none⟩ = false:=by simp [World.frozen?,hbo]
 have z4 : w5.cell? ⟨w.heap.size + 1,4,none⟩ = some (.string ⟨#[]⟩):=by simp only [World.cell?,hbo]; rfl
 have f4 : w5.frozen? ⟨w.heap.size + 1,4,none⟩ = false:=by simp [World.frozen?,hbo]
 have z5 : w5.cell? ⟨w.heap.size + 1,5,none⟩ = some (.slice none 0 0):=by simp only [World.cell?,hbo]; rfl
 have f5 : w5.frozen? ⟨w.heap.size + 1,5,none⟩ = false:=by simp [World.frozen?,hbo]
 have z9:=block_lt_of_cell z0
 clear hbo
 go_upto_region 8 with fail
 rw [rounds_succ]
 go_upto_region 5 with fail
 rw [rounds_succ]
 go_upto_region 19 with fail
 go_wp2_with fail
 refine bodyGen (fun W=>St w W _) (St.setsL (i:=2) [.int .i64 1,.int .i64 0,.int .i64 0,.int .i64 0,.string ⟨#[]⟩,.slice none 0 0] 0 _ _ _ S5.out rfl) ?_
 intro w9 S9'
 have S9:=Lib.hid S9'
 clear S9'
 simp only [List.set_cons_zero,List.set_cons_succ] at S9
 have F9 : w9.heap[w.heap.size + 1]? = some (.cells #[.int .i64 1,.int .i64 0,.int .i64 0,.int .i64 0,.string ⟨#[]⟩,.slice none 0 0] 69 (0,0)):=S9.out.blk 2 rfl
 have c0 : w9.cell? ⟨w.heap.size + 1,0,none⟩ = some (.int .i64 1):=by simp only [World.cell?,F9]; rfl
 have c1 : w9.cell? ⟨w.heap.size + 1,1,none⟩ = some (.int .i64 0):=by simp only [World.cell?,F9]; rfl
 have c2 : w9.cell? ⟨w.heap.size + 1,2,none⟩ = some (.int .i64 0):=by simp only [World.cell?,F9]; rfl
 have c3 : w9.cell? ⟨w.heap.size + 1,3,none⟩ = some (.int .i64 0):=by simp only [World.cell?,F9]; rfl
 have c4 : w9.cell? ⟨w.heap.size + 1,4,none⟩ = some (.string ⟨#[]⟩):=by simp only [World.cell?,F9]; rfl
 have c5 : w9.cell? ⟨w.heap.size + 1,5,none⟩ = some (.slice none 0 0):=by simp only [World.cell?,F9]; rfl
 refine bodyPost_ret (v:=.tuple #[.agg #[.int .i64 1,.int .i64 0,.int .i64 0,.int .i64 0,.string ⟨#[]⟩,.slice none 0 0],.int .i64 0]) (by simp [results,Tryz.results144,go_sem,c0,c1,c2,c3,c4,c5]) rfl ?_
 exact ⟨rfl,S9.out.below⟩
set_option maxRecDepth 100000 in
set_option maxHeartbeats 8000000 in
theorem resolve_b (Q : Nat→Prop) (tv : Value) (na : Option Addr) (nc : Nat) (w : World) (ht : RSl tblE Q w tv [exTbl]) :
  Calls Tryz.prog 144 #[tv,.agg #[.int .i64 1,.string ⟨#[]⟩,.string ⟨[98].toArray⟩,.int .i64 0,.int .i64 0,.string ⟨#[]⟩,.slice na 0 nc]] w (Says (.tuple #[.agg #[.int .i64 1,.int .i64 1,.int .i64 0,.int .i64 0,.string ⟨#[]⟩,.slice none 0 0],.int .i64 0]) w):=by
 obtain ⟨tb,tq,tc,cb,co,cc,ia,ic,ka,kc,rfl,H⟩:=tblAt_of ht
 have HT:=Lib.hid H
 clear ht H
 go_enter Tryz.func144,Tryz.ntmps144
 go_upto_region 4 with fail
 refine St.gen (St.alloc (St.alloc (St.start _))) ?_
 intro w1 S1
 try (simp only [World.size_alloc] at S1)
 have F1:=S1.out.facts
 simp only [St.Facts,cellFacts,apartFacts,and_true] at F1
 obtain ⟨t0,t1,t2,t3,a0,a1,a2,b0,b1,b2⟩:=HT.out.kept S1.out.below
 go_upto_region 5 with fail
 refine wp_loop_rounds 2 ?_
 rw [rounds_succ]
 go_upto_region 8 with fail
 clear F1 t0 t1 t2 t3 a0 a1 a2 b0 b1 b2
 refine St.gen (St.alloc (S1.out)) ?_
 intro w2 S2
 try (simp only [List.set_cons_zero,List.set_cons_succ,List.setIfInBounds_toArray,World.size_alloc] at S2)
 clear S1
 have F2:=S2.out.facts
 simp only [St.Facts,cellFacts,apartFacts,and_true] at F2
 obtain ⟨t0,t1,t2,t3,a0,a1,a2,b0,b1,b2⟩:=HT.out.kept S2.out.below
 refine wp_loop_rounds 3 ?_
 rw [rounds_succ]
 go_upto_region 12 with fail
 clear F2 t0 t1 t2 t3 a0 a1 a2 b0 b1 b2
 refine St.gen (St.laid (S2.out)) ?_
 intro w3 S3
 try (simp only [List.set_cons_zero,List.set_cons_succ,List.setIfInBounds_toArray,World.size_alloc] at S3)
 clear S2
 have F3:=S3.out.facts
 simp only [St.Facts,cellFacts,apartFacts,and_true] at F3
 obtain ⟨t0,t1,t2,t3,a0,a1,a2,b0,b1,b2⟩:=HT.out.kept S3.out.below
 go_upto_region 8 with fail
 rw [rounds_succ]
 go_upto_region 11 with fail
 clear F3 t0 t1 t2 t3 a0 a1 a2 b0 b1 b2
 refine St.gen (St.laid (S3.out)) ?_
 intro w4 S4
 try (simp only [List.set_cons_zero,List.set_cons_succ,List.setIfInBounds_toArray,World.size_alloc] at S4)
 clear S3
 have F4:=S4.out.facts
 simp only [St.Facts,cellFacts,apartFacts,and_true] at F4
 go_wp2_with (refine wpList_append_nil rfl (.tmp 50) (.tmp 52) 61 rfl 3 (.int .i64 0) 1 8 Tryz.underlying61 infoInt rfl (by decide) (St.laid S4.out) rfl _ 1 [.int .i64 1] rfl (by decide) (slAt_fresh (by decide)) rfl (by simp [Value.oneCell']) (by decide) (by unfold maxLen; decide) ?_; intro g cap zs w5 S5 hc1 hc2 hc3; simp only [List.cons_append,List.nil_append] at S5)
 clear F4 S4
 have y0 : w5.cell? ⟨g,0,none⟩ = some (.int .i64 1):=by simp only [World.cell?,S5.out.blk 0 rfl]; rfl
 have y1:=block_lt_of_cell y0
 have hbo : w5.heap[w.heap.size + 1]? = some (.cells #[.int .i64 0,.int .i64 0,.int .i64 0,.int .i64 0,.string ⟨#[]⟩,.slice none 0 0] 69 (0,0)):=S5.out.blk 2 rfl
 have z0 : w5.cell? ⟨w.heap.size + 1,0,none⟩ = some (.int .i64 0):=by simp only [World.cell?,hbo]; rfl
 have f0 : w5.frozen? ⟨w.heap.size + 1,0,none⟩ = false:=by simp [World.frozen?,hbo]
 have z1 : w5.cell? ⟨w.heap.size + 1,1,none⟩ = some (.int .i64 0):=by simp only [World.cell?,hbo]; rfl
 have f1 : w5.frozen? ⟨w.heap.size + 1,1,none⟩ = false:=by simp [World.frozen?,hbo]
 have z2 : w5.cell? ⟨w.heap.size + 1,2,none⟩ = some (.int .i64 0):=by simp only [World.cell?,hbo]; rfl
 have f2 : w5.frozen? ⟨w.heap.size + 1,2,none⟩ = false:=by simp [World.frozen?,hbo]
 have z3 : w5.cell? ⟨w.heap.size + 1,3,none⟩ = some (.int .i64 0):=by simp only [World.cell?,hbo]; rfl
 have f3 : w5.frozen? ⟨w.heap.size + 1,3,none⟩ = false:=by simp [World.frozen?,hbo]
 have z4 : w5.cell? ⟨w.heap.size + 1,4,none⟩ = some (.string ⟨#[]⟩):=by simp only [World.cell?,hbo]; rfl
 have f4 : w5.frozen? ⟨w.heap.size + 1,4,none⟩ = false:=by simp [World.frozen?,hbo]
 have z5 : w5.cell? ⟨w.heap.size + 1,5,none⟩ = some (.slice none 0 0):=by simp only [World.cell?,hbo]; rfl
 have f5 : w5.frozen? ⟨w.heap.size + 1,5,none⟩ = false:=by simp [World.frozen?,hbo]
 have z9:=block_lt_of_cell z0
 clear hbo
 rw [rounds_succ]
 go_upto_region 5 with fail
 rw [rounds_succ]
 go_upto_region 19 with fail
 go_wp2_with fail
 refine bodyGen (fun W=>St w W _) (St.setsL (i:=2) [.int .i64 1,.int .i64 1,.int .i64 0,.int .i64 0,.string ⟨#[]⟩,.slice none 0 0] 0 _ _ _ S5.out rfl) ?_
 intro w9 S9'
 have S9:=Lib.hid S9'
 clear S9'
 simp only [List.set_cons_zero,List.set_cons_succ] at S9
 have F9 : w9.heap[w.heap.size + 1]? = some (.cells #[.int .i64 1,.int .i64 1,.int .i64 0,.int .i64 0,.string ⟨#[]⟩,.slice none 0 0] 69 (0,0)):=S9.out.blk 2 rfl
 have c0 : w9.cell? ⟨w.heap.size + 1,0,none⟩ = some (.int .i64 1):=by simp only [World.cell?,F9]; rfl
 have c1 : w9.cell? ⟨w.heap.size + 1,1,none⟩ = some (.int .i64 1):=by simp only [World.cell?,F9]; rfl
 have c2 : w9.cell? ⟨w.heap.size + 1,2,none⟩ = some (.int .i64 0):=by simp only [World.cell?,F9]; rfl
 have c3 : w9.cell? ⟨w.heap.size + 1,3,none⟩ = some (.int .i64 0):=by simp only [World.cell?,F9]; rfl
 have c4 : w9.cell? ⟨w.heap.size + 1,4,none⟩ = some (.string ⟨#[]⟩):=by simp only [World.cell?,F9]; rfl
 have c5 : w9.cell? ⟨w.heap.size + 1,5,none⟩ = some (.slice none 0 0):=by simp only [World.cell?,F9]; rfl
 refine bodyPost_ret (v:=.tuple #[.agg #[.int .i64 1,.int .i64 1,.int .i64 0,.int .i64 0,.string ⟨#[]⟩,.slice none 0 0],.int .i64 0]) (by simp [results,Tryz.results144,go_sem,c0,c1,c2,c3,c4,c5]) rfl ?_
 exact ⟨rfl,S9.out.below⟩
end Go.Proofs.YtimoefagohifaaaGreatDoor
