/-
  Part 10 of the texts of one proof, made small by a program: see the last part for what is proved. No condition.
-/
import Derived.Defers
import Derived.Recover
import Derived.Test.YtimoefagohifaaaGreatDoorQ03
import Derived.Test.YtimoefagohifaaaGreatDoorQ08
import Derived.Test.YtimoefagohifaaaGreatDoorQ09
namespace Go.Proofs.YtimoefagohifaaaGreatDoor
open Go.RowKit Go.Sort
def Says (v : Value) (w : World) (e : Ending) (w' : World) : Prop:=e = .returned v∧Below w.heap.size w w'
def idxFrom {α : Type} (p : α→Bool) : Nat→List α→Int
 | _,[]=>-1
 | k,a :: l=>if p a then (k : Int) else idxFrom p (k + 1) l
theorem idxFrom_any {α : Type} (p : α→Bool) : ∀ (l : List α) (k : Nat),decide (0≤idxFrom p k l) = l.any p
 | [],k=>rfl
 | a :: l,k=>by
  rw [idxFrom,List.any_cons]
  by_cases h : p a = true
  ·simp [h]
  ·have h' : p a = false:=by simpa using h
   rw [h',Bool.false_or,← idxFrom_any p l (k + 1)]
   simp
theorem any_not {α : Type} (p : α→Bool) (l : List α) : (!(l.any fun a=>!p a)) = l.all p:=by
 induction l with
 | nil=>rfl
 | cons a l ih=>simp only [List.any_cons,List.all_cons,Bool.not_or,Bool.not_not,ih]
theorem allR_eq {α : Type} (l : List α) (least most : Int) (p : α→Bool) : allR l least most p = if least≤(l.length : Int) then (if (l.length : Int)≤most then l.all p else false) else false:=by
 unfold allR
 by_cases h : least≤(l.length : Int) <;> by_cases h2 : (l.length : Int)≤most <;> simp [h,h2]
theorem LIn.get {α : Type} {E : ElRep α} {Q : Nat→Prop} {w : World} : ∀ {l : List α} {acs : List Value} {i : Nat} {a : α},LIn E Q w l acs→l[i]? = some a→∃ c,E.In Q w a c∧∀ j u,c[j]? = some u→acs[i * E.k + j]? = some u
 | [],acs,i,a,_,hi=>by cases hi
 | d :: l,acs,0,a,h,hi=>by
  obtain ⟨c1,c2,rfl,h1,h2⟩:=h
  simp only [List.getElem?_cons_zero,Option.some.injEq] at hi
  subst hi
  refine ⟨c1,h1,fun j u hu=>?_⟩
  rw [Nat.zero_mul,Nat.zero_add,List.getElem?_append_left (List.getElem?_eq_some_iff.1 hu).1]; exact hu
 | d :: l,acs,i + 1,a,h,hi=>by
  obtain ⟨c1,c2,rfl,h1,h2⟩:=h
  simp only [List.getElem?_cons_succ] at hi
  obtain ⟨c,hc,hj⟩:=LIn.get h2 hi
  refine ⟨c,hc,fun j u hu=>?_⟩
  have:=E.len h1
  rw [List.getElem?_append_right (by rw [Nat.succ_mul]; omega),show (i + 1) * E.k + j - c1.length = i * E.k + j by rw [Nat.succ_mul]; omega]
  exact hj j u hu
theorem RSl.kept {α : Type} {E : ElRep α} (hk : 0 < E.k) {Q : Nat→Prop} {w w' : World} {v : Value} {l : List α} (h : RSl E Q w v l) (hb : Below w.heap.size w w') : RSl E Q w' v l:=rSl_move hk (fun b hlt k=>⟨k,hb.block b hlt⟩) h
theorem RSl.at {α : Type} {E : ElRep α} {Q : Nat→Prop} {w : World} {v : Value} {l : List α} (h : RSl E Q w v l) {k : Nat} {a : α} (hk : l[k]? = some a) : ∃ b o cap c,v = .slice (some ⟨b,o,none⟩) l.length cap∧E.In Q w a c∧∀ j u,c[j]? = some u→w.cell? ⟨b,o + k * E.k + j,none⟩ = some u:=by
 obtain ⟨acs,⟨ad,cap,rfl,hc,h1⟩,h2⟩:=h
 obtain ⟨b,o,rfl,_,h3⟩:=h1 (Nat.lt_of_le_of_lt (Nat.zero_le _) (List.getElem?_eq_some_iff.1 hk).1)
 obtain ⟨c,hc,hj⟩:=LIn.get h2 hk
 exact ⟨b,o,cap,c,rfl,hc,fun j u hu=>by rw [Nat.add_assoc]; exact h3 _ _ (hj j u hu)⟩
theorem RSl.slice {α : Type} {E : ElRep α} {Q : Nat→Prop} {w : World} {v : Value} {l : List α} (h : RSl E Q w v l) : ∃ a c,v = .slice a l.length c:=by
 obtain ⟨acs,⟨ad,cap,e,_⟩,_⟩:=h
 exact ⟨ad,cap,e⟩
set_option maxRecDepth 100000 in
set_option maxHeartbeats 4000000 in
theorem idx169_any (g : Nat) (qb : Nat) (Q : Nat→Prop) (p : Bytes→Bool) (l : List Bytes) (v : Value) (w : World) (hfn : ∀ args w,(callFunc g args).run Tryz.prog w = .ok (.enter g args) w) (hv : RSl strE Q w v l) (hl : l.length≤4611686018427387904)
  (HG : Hid (∀ W a cs,Below w.heap.size w W→a ∈ l→strE.In Q W a cs→Calls Tryz.prog g #[strE.val cs,.pointer (some ⟨qb,0,none⟩)] W (Says (.bool (p a)) W))) :
  Calls Tryz.prog 169 #[v,.func (.func g) #[] #[.pointer (some ⟨qb,0,none⟩)]] w (Says (.int .i64 (idxFrom p 0 l)) w):=by
 obtain ⟨a0,cap0,rfl⟩:=hv.slice
 have HV:=Lib.hid hv
 clear hv
 go_enter Tryz.func169,Tryz.ntmps169
 go_wp2_with fail
 go_loopw [5,8] (fun _ i wr=>∃ k : Nat,k≤l.length∧i = .int .i64 k∧Hid (idxFrom p 0 l = idxFrom p k (l.drop k))∧Hid (Below w.heap.size w wr)) (fun _ i _=>l.length - (intOf i).toNat)
 case atStart=>exact ⟨0,by omega,rfl,rfl,Below.refl _ _⟩
 case round=>
  obtain ⟨k,hk,rfl,HK,HB⟩:=hrel
  by_cases hlt : k < l.length
  ·obtain ⟨a,hx⟩ : ∃ x,l[k]? = some x:=⟨l[k],by simp [hlt]⟩
   obtain ⟨b,o,cap,cs,hbo,hin,hat⟩:=((HV.out.kept (by decide) HB.out)).at hx
   injection hbo with e1 _ e2
   subst e1
   subst e2
   have C1:=Lib.hid (HG.out wr a cs HB.out (List.mem_of_getElem? hx) hin)
   have hst : idxFrom p k (l.drop k) = if p a then (k : Int) else idxFrom p (k + 1) (l.drop (k + 1)):=by
    obtain ⟨h1,rfl⟩:=List.getElem?_eq_some_iff.1 hx
    rw [List.drop_eq_getElem_cons h1,idxFrom]
   have HST : Hid (idxFrom p 0 l = _):=HK.out.trans hst
   have h1 : cs = [.string ⟨a.toArray⟩]:=hin
   subst h1
   have x0:=hat 0 _ rfl
   simp only [show strE.k = 1 from rfl,Nat.add_zero,Nat.mul_one] at x0
   change Hid (Calls Tryz.prog g #[.string ⟨a.toArray⟩,.pointer (some ⟨qb,0,none⟩)] wr (Says (.bool (p a)) wr)) at C1
   clear hst HK hx hat
   by_cases hn : p a = true
   ·have HR : Hid (idxFrom p 0 l = (k : Int)):=by show _ = _; rw [HST.out,if_pos hn]
    rw [hn] at C1
    clear HST hn
    go_wp2_with fail
    refine Calls.mono C1.out ?_
    rintro e w1 ⟨rfl,hb1⟩
    have HB1:=Lib.hid (HB.out.step hb1)
    clear hb1 x0
    go_wp2_with fail
    go_returns
    exact ⟨by rw [HR.out]; rfl,HB1.out⟩
   ·have HR : Hid (idxFrom p 0 l = idxFrom p (k + 1) (l.drop (k + 1))):=by show _ = _; rw [HST.out,if_neg hn]
    have hd : p a = false:=by simpa using hn
    rw [hd] at C1
    clear HST hn hd
    go_wp2_with fail
    refine Calls.mono C1.out ?_
    rintro e w1 ⟨rfl,hb1⟩
    have HB1:=Lib.hid (HB.out.step hb1)
    clear hb1 x0
    go_wp2_with fail
    go_roundw
    case rel=>exact ⟨k + 1,by omega,by go_num,HR.out,HB1.out⟩
    case measure=>simp [intOf]; omega
  ·obtain rfl : k = l.length:=by omega
   have HR : Hid (idxFrom p 0 l = -1):=by show _ = _; rw [HK.out,List.drop_length]; rfl
   clear HK
   go_wp2_with fail
   go_returns
   exact ⟨by rw [HR.out]; rfl,HB.out⟩
set_option maxRecDepth 100000 in
set_option maxHeartbeats 4000000 in
theorem contains102_any (g : Nat) (qb : Nat) (Q : Nat→Prop) (p : Bytes→Bool) (l : List Bytes) (v : Value) (w : World) (hfn : ∀ args w,(callFunc g args).run Tryz.prog w = .ok (.enter g args) w) (hv : RSl strE Q w v l) (hl : l.length≤4611686018427387904)
  (HG : Hid (∀ W a cs,Below w.heap.size w W→a ∈ l→strE.In Q W a cs→Calls Tryz.prog g #[strE.val cs,.pointer (some ⟨qb,0,none⟩)] W (Says (.bool (p a)) W))) :
  Calls Tryz.prog 102 #[v,.func (.func g) #[] #[.pointer (some ⟨qb,0,none⟩)]] w (Says (.bool (l.any p)) w):=by
 have HC:=Lib.hid (idx169_any g qb Q p l v w hfn hv hl HG)
 have HD:=Lib.hid (idxFrom_any p l 0)
 clear HG hv
 go_enter Tryz.func102,Tryz.ntmps102
 go_wp2_with fail
 refine Calls.mono HC.out ?_
 rintro e w1 ⟨rfl,hb1⟩
 go_wp2_with fail
 exact bodyPost_ret (v:=.bool (l.any p)) (by simp [results,Tryz.results102,go_sem,← HD.out]) rfl ⟨rfl,hb1⟩
theorem enters103 : ∀ args w,(callFunc 103 args).run Tryz.prog w = .ok (.enter 103 args) w:=enters_of Tryz.func103 (by kernel_rfl) rfl
set_option maxRecDepth 100000 in
set_option maxHeartbeats 4000000 in
theorem not103_any (g : Nat) (cb : Nat) (Q : Nat→Prop) (a : Bytes) (cs : List Value) (b : Bool) (w : World) (hfn : ∀ args w,(callFunc g args).run Tryz.prog w = .ok (.enter g args) w) (hc : w.cell? ⟨cb,0,none⟩ = some (.func (.func g) #[] #[])) (hin : strE.In Q w a cs)
  (HG : Hid (∀ W,Below w.heap.size w W→strE.In Q W a cs→Calls Tryz.prog g #[strE.val cs] W (Says (.bool b) W))) :
  Calls Tryz.prog 103 #[strE.val cs,.pointer (some ⟨cb,0,none⟩)] w (Says (.bool (!b)) w):=by
 have HX : Hid (∀ W,Below w.heap.size w W→Calls Tryz.prog g #[strE.val cs] W (Says (.bool b) W)):=fun W hW=>HG.out W hW (strE.move (fun c hlt k=>⟨k,hW.block c hlt⟩) hin)
 clear HG
 have h1 : cs = [.string ⟨a.toArray⟩]:=hin
 subst h1
 change Hid (∀ W,Below w.heap.size w W→Calls Tryz.prog g #[.string ⟨a.toArray⟩] W (Says (.bool b) W)) at HX
 show Calls Tryz.prog 103 #[.string ⟨a.toArray⟩,.pointer (some ⟨cb,0,none⟩)] w _
 have y1:=hc
 go_enter Tryz.func103,Tryz.ntmps103
 go_wp2_with fail
 refine Calls.mono (HX.out _ (Below.refl _ _)) ?_
 rintro e w1 ⟨rfl,hb1⟩
 go_wp2_with fail
 exact bodyPost_ret (v:=.bool (!b)) (by simp [results,Tryz.results103,go_sem]) rfl ⟨rfl,hb1⟩
set_option maxRecDepth 100000 in
set_option maxHeartbeats 4000000 in
theorem all40_any (g : Nat) (Q : Nat→Prop) (p : Bytes→Bool) (least most : Int) (l : List Bytes) (v : Value) (w : World) (hfn : ∀ args w,(callFunc g args).run Tryz.prog w = .ok (.enter g args) w) (hv : RSl strE Q w v l) (hm : most≤4611686018427387904)
  (HG : Hid (∀ W a cs,Below w.heap.size w W→a ∈ l→strE.In Q W a cs→Calls Tryz.prog g #[strE.val cs] W (Says (.bool (p a)) W))) :
  Calls Tryz.prog 40 #[v,.int .i64 least,.int .i64 most,.func (.func g) #[] #[]] w (Says (.bool (allR l least most p)) w):=by
 have hb0 : Below w.heap.size w (w.alloc (.cells #[.func (.func g) #[] #[]] 30)):=(Below.refl _ _).alloc (Nat.le_refl _) _
 have HC : Hid (l.length≤4611686018427387904→Calls Tryz.prog 102 #[v,.func (.func 103) #[] #[.pointer (some ⟨w.heap.size,0,none⟩)]] (w.alloc (.cells #[.func (.func g) #[] #[]] 30)) (Says (.bool (l.any fun a=>!p a)) (w.alloc (.cells #[.func (.func g) #[] #[]] 30)))):=by
  intro hl
  refine contains102_any 103 w.heap.size Q _ l v _ enters103 (hv.kept (by decide) hb0) hl ?_
  intro W a cs hW ha hin
  have hbW : Below w.heap.size w W:=hb0.trans (hW.mono (by simp))
  refine not103_any g w.heap.size Q a cs (p a) W hfn (hW.cell_kept ?_) hin (fun W' hW' hin'=>HG.out W' a cs (hbW.step hW') ha hin')
  simp only [World.cell?,World.alloc_heap_new]
  rfl
 have HE:=Lib.hid (allR_eq l least most p)
 have HN:=Lib.hid (any_not p l)
 have HB:=Lib.hid hb0
 obtain ⟨a0,cap0,rfl⟩:=hv.slice
 clear HG hb0 hv
 go_enter Tryz.func40,Tryz.ntmps40
 by_cases h1 : least≤(l.length : Int)
 ·by_cases h2 : (l.length : Int)≤most
  ·have HR : Hid (allR l least most p = !(l.any fun a=>!p a)):=by show _ = _; rw [HE.out,if_pos h1,if_pos h2,HN.out]
   clear HE HN
   go_wp2_with fail
   refine Calls.mono (HC.out (by omega)) ?_
   rintro e w1 ⟨rfl,hb1⟩
   have HB1:=Lib.hid (HB.out.step hb1)
   clear hb1 HC HB
   generalize (l.any fun a=>!p a) = b at *
   go_wp2_with fail
   exact bodyPost_ret (v:=.bool (!b)) (by simp [results,Tryz.results40,go_sem]) rfl ⟨by rw [HR.out],HB1.out⟩
  ·have HR : Hid (allR l least most p = false):=by show _ = _; rw [HE.out,if_pos h1,if_neg h2]
   clear HE HN HC
   go_wp2_with fail
   exact bodyPost_ret (v:=.bool false) (by simp [results,Tryz.results40,go_sem]) rfl ⟨by rw [HR.out],HB.out⟩
 ·have HR : Hid (allR l least most p = false):=by show _ = _; rw [HE.out,if_neg h1]
  clear HE HN HC
  go_wp2_with fail
  exact bodyPost_ret (v:=.bool false) (by simp [results,Tryz.results40,go_sem]) rfl ⟨by rw [HR.out],HB.out⟩
set_option maxRecDepth 100000 in
set_option maxHeartbeats 4000000 in
theorem idx178_any (g : Nat) (qb : Nat) (Q : Nat→Prop) (p : Ex→Bool) (l : List Ex) (v : Value) (w : World) (hfn : ∀ args w,(callFunc g args).run Tryz.prog w = .ok (.enter g args) w) (hv : RSl exE Q w v l) (hl : l.length≤4611686018427387904)
  (HG : Hid (∀ W a cs,Below w.heap.size w W→a ∈ l→exE.In Q W a cs→Calls Tryz.prog g #[exE.val cs,.pointer (some ⟨qb,0,none⟩)] W (Says (.bool (p a)) W))) :
  Calls Tryz.prog 178 #[v,.func (.func g) #[] #[.pointer (some ⟨qb,0,none⟩)]] w (Says (.int .i64 (idxFrom p 0 l)) w):=by
 obtain ⟨a0,cap0,rfl⟩:=hv.slice
 have HV:=Lib.hid hv
 clear hv
 go_enter Tryz.func178,Tryz.ntmps178
 go_wp2_with fail
 go_loopw [5,8] (fun _ i wr=>∃ k : Nat,k≤l.length∧i = .int .i64 k∧Hid (idxFrom p 0 l = idxFrom p k (l.drop k))∧Hid (Below w.heap.size w wr)) (fun _ i _=>l.length - (intOf i).toNat)
 case atStart=>exact ⟨0,by omega,rfl,rfl,Below.refl _ _⟩
 case round=>
  obtain ⟨k,hk,rfl,HK,HB⟩:=hrel
  by_cases hlt : k < l.length
  ·obtain ⟨a,hx⟩ : ∃ x,l[k]? = some x:=⟨l[k],by simp [hlt]⟩
   obtain ⟨b,o,cap,cs,hbo,hin,hat⟩:=((HV.out.kept (by decide) HB.out)).at hx
   injection hbo with e1 _ e2
   subst e1
   subst e2
   have C1:=Lib.hid (HG.out wr a cs HB.out (List.mem_of_getElem? hx) hin)
   have hst : idxFrom p k (l.drop k) = if p a then (k : Int) else idxFrom p (k + 1) (l.drop (k + 1)):=by
    obtain ⟨h1,rfl⟩:=List.getElem?_eq_some_iff.1 hx
    rw [List.drop_eq_getElem_cons h1,idxFrom]
   have HST : Hid (idxFrom p 0 l = _):=HK.out.trans hst
   have hin0:=hin
   obtain ⟨op,t,n,v,args⟩:=a
   obtain ⟨ad0,acs,rfl,⟨ad,ac,rfl,_⟩,_⟩:=hin
   have x0:=hat 0 _ rfl
   have x1:=hat 1 _ rfl
   have x2:=hat 2 _ rfl
   have x3:=hat 3 _ rfl
   have x4:=hat 4 _ rfl
   have x5:=hat 5 _ rfl
   have x6:=hat 6 _ rfl
   simp only [show exE.k = 7 from rfl,Nat.add_zero] at x0 x1 x2 x3 x4 x5 x6
   change Hid (Calls Tryz.prog g #[.agg #[.int .i64 op,.string ⟨t.toArray⟩,.string ⟨n.toArray⟩,.int .i64 v.k,.int .i64 v.n,.string v.s,.slice ad args.length ac],.pointer (some ⟨qb,0,none⟩)] wr (Says (.bool (p (.mk op t n v args))) wr)) at C1
   clear hst HK hx hat
   by_cases hn : p (.mk op t n v args) = true
   ·have HR : Hid (idxFrom p 0 l = (k : Int)):=by show _ = _; rw [HST.out,if_pos hn]
    rw [hn] at C1
    clear HST hn
    go_wp2_with fail
    refine Calls.mono C1.out ?_
    rintro e w1 ⟨rfl,hb1⟩
    have HB1:=Lib.hid (HB.out.step hb1)
    clear hb1 x0 x1 x2 x3 x4 x5 x6
    go_wp2_with fail
    go_returns
    exact ⟨by rw [HR.out]; rfl,HB1.out⟩
   ·have HR : Hid (idxFrom p 0 l = idxFrom p (k + 1) (l.drop (k + 1))):=by show _ = _; rw [HST.out,if_neg hn]
    have hd : p (.mk op t n v args) = false:=by simpa using hn
    rw [hd] at C1
    clear HST hn hd
    go_wp2_with fail
    refine Calls.mono C1.out ?_
    rintro e w1 ⟨rfl,hb1⟩
    have HB1:=Lib.hid (HB.out.step hb1)
    clear hb1 x0 x1 x2 x3 x4 x5 x6
    go_wp2_with fail
    go_roundw
    case rel=>exact ⟨k + 1,by omega,by go_num,HR.out,HB1.out⟩
    case measure=>simp [intOf]; omega
  ·obtain rfl : k = l.length:=by omega
   have HR : Hid (idxFrom p 0 l = -1):=by show _ = _; rw [HK.out,List.drop_length]; rfl
   clear HK
   go_wp2_with fail
   go_returns
   exact ⟨by rw [HR.out]; rfl,HB.out⟩
set_option maxRecDepth 100000 in
set_option maxHeartbeats 4000000 in
theorem contains113_any (g : Nat) (qb : Nat) (Q : Nat→Prop) (p : Ex→Bool) (l : List Ex) (v : Value) (w : World) (hfn : ∀ args w,(callFunc g args).run Tryz.prog w = .ok (.enter g args) w) (hv : RSl exE Q w v l) (hl : l.length≤4611686018427387904)
  (HG : Hid (∀ W a cs,Below w.heap.size w W→a ∈ l→exE.In Q W a cs→Calls Tryz.prog g #[exE.val cs,.pointer (some ⟨qb,0,none⟩)] W (Says (.bool (p a)) W))) :
  Calls Tryz.prog 113 #[v,.func (.func g) #[] #[.pointer (some ⟨qb,0,none⟩)]] w (Says (.bool (l.any p)) w):=by
 have HC:=Lib.hid (idx178_any g qb Q p l v w hfn hv hl HG)
 have HD:=Lib.hid (idxFrom_any p l 0)
 clear HG hv
 go_enter Tryz.func113,Tryz.ntmps113
 go_wp2_with fail
 refine Calls.mono HC.out ?_
 rintro e w1 ⟨rfl,hb1⟩
 go_wp2_with fail
 exact bodyPost_ret (v:=.bool (l.any p)) (by simp [results,Tryz.results113,go_sem,← HD.out]) rfl ⟨rfl,hb1⟩
theorem enters114 : ∀ args w,(callFunc 114 args).run Tryz.prog w = .ok (.enter 114 args) w:=enters_of Tryz.func114 (by kernel_rfl) rfl
set_option maxRecDepth 100000 in
set_option maxHeartbeats 4000000 in
theorem idx178_plain (g : Nat) (Q : Nat→Prop) (p : Ex→Bool) (l : List Ex) (v : Value) (w : World) (hfn : ∀ args w,(callFunc g args).run Tryz.prog w = .ok (.enter g args) w) (hv : RSl exE Q w v l) (hl : l.length≤4611686018427387904)
  (HG : Hid (∀ W a cs,Below w.heap.size w W→a ∈ l→exE.In Q W a cs→Calls Tryz.prog g #[exE.val cs] W (Says (.bool (p a)) W))) :
  Calls Tryz.prog 178 #[v,.func (.func g) #[] #[]] w (Says (.int .i64 (idxFrom p 0 l)) w):=by
 obtain ⟨a0,cap0,rfl⟩:=hv.slice
 have HV:=Lib.hid hv
 clear hv
 go_enter Tryz.func178,Tryz.ntmps178
 go_wp2_with fail
 go_loopw [5,8] (fun _ i wr=>∃ k : Nat,k≤l.length∧i = .int .i64 k∧Hid (idxFrom p 0 l = idxFrom p k (l.drop k))∧Hid (Below w.heap.size w wr)) (fun _ i _=>l.length - (intOf i).toNat)
 case atStart=>exact ⟨0,by omega,rfl,rfl,Below.refl _ _⟩
 case round=>
  obtain ⟨k,hk,rfl,HK,HB⟩:=hrel
  by_cases hlt : k < l.length
  ·obtain ⟨a,hx⟩ : ∃ x,l[k]? = some x:=⟨l[k],by simp [hlt]⟩
   obtain ⟨b,o,cap,cs,hbo,hin,hat⟩:=((HV.out.kept (by decide) HB.out)).at hx
   injection hbo with e1 _ e2
   subst e1
   subst e2
   have C1:=Lib.hid (HG.out wr a cs HB.out (List.mem_of_getElem? hx) hin)
   have hst : idxFrom p k (l.drop k) = if p a then (k : Int) else idxFrom p (k + 1) (l.drop (k + 1)):=by
    obtain ⟨h1,rfl⟩:=List.getElem?_eq_some_iff.1 hx
    rw [List.drop_eq_getElem_cons h1,idxFrom]
   have HST : Hid (idxFrom p 0 l = _):=HK.out.trans hst
   have hin0:=hin
   obtain ⟨op,t,n,v,args⟩:=a
   obtain ⟨ad0,acs,rfl,⟨ad,ac,rfl,_⟩,_⟩:=hin
   have x0:=hat 0 _ rfl
   have x1:=hat 1 _ rfl
   have x2:=hat 2 _ rfl
   have x3:=hat 3 _ rfl
   have x4:=hat 4 _ rfl
   have x5:=hat 5 _ rfl
   have x6:=hat 6 _ rfl
   simp only [show exE.k = 7 from rfl,Nat.add_zero] at x0 x1 x2 x3 x4 x5 x6
   change Hid (Calls Tryz.prog g #[.agg #[.int .i64 op,.string ⟨t.toArray⟩,.string ⟨n.toArray⟩,.int .i64 v.k,.int .i64 v.n,.string v.s,.slice ad args.length ac]] wr (Says (.bool (p (.mk op t n v args))) wr)) at C1
   clear hst HK hx hat
   by_cases hn : p (.mk op t n v args) = true
   ·have HR : Hid (idxFrom p 0 l = (k : Int)):=by show _ = _; rw [HST.out,if_pos hn]
    rw [hn] at C1
    clear HST hn
    go_wp2_with fail
    refine Calls.mono C1.out ?_
    rintro e w1 ⟨rfl,hb1⟩
    have HB1:=Lib.hid (HB.out.step hb1)
    clear hb1 x0 x1 x2 x3 x4 x5 x6
    go_wp2_with fail
    go_returns
    exact ⟨by rw [HR.out]; rfl,HB1.out⟩
   ·have HR : Hid (idxFrom p 0 l = idxFrom p (k + 1) (l.drop (k + 1))):=by show _ = _; rw [HST.out,if_neg hn]
    have hd : p (.mk op t n v args) = false:=by simpa using hn
    rw [hd] at C1
    clear HST hn hd
    go_wp2_with fail
    refine Calls.mono C1.out ?_
    rintro e w1 ⟨rfl,hb1⟩
    have HB1:=Lib.hid (HB.out.step hb1)
    clear hb1 x0 x1 x2 x3 x4 x5 x6
    go_wp2_with fail
    go_roundw
    case rel=>exact ⟨k + 1,by omega,by go_num,HR.out,HB1.out⟩
    case measure=>simp [intOf]; omega
  ·obtain rfl : k = l.length:=by omega
   have HR : Hid (idxFrom p 0 l = -1):=by show _ = _; rw [HK.out,List.drop_length]; rfl
   clear HK
   go_wp2_with fail
   go_returns
   exact ⟨by rw [HR.out]; rfl,HB.out⟩
set_option maxRecDepth 100000 in
set_option maxHeartbeats 4000000 in
theorem contains113_plain (g : Nat) (Q : Nat→Prop) (p : Ex→Bool) (l : List Ex) (v : Value) (w : World) (hfn : ∀ args w,(callFunc g args).run Tryz.prog w = .ok (.enter g args) w) (hv : RSl exE Q w v l) (hl : l.length≤4611686018427387904)
  (HG : Hid (∀ W a cs,Below w.heap.size w W→a ∈ l→exE.In Q W a cs→Calls Tryz.prog g #[exE.val cs] W (Says (.bool (p a)) W))) :
  Calls Tryz.prog 113 #[v,.func (.func g) #[] #[]] w (Says (.bool (l.any p)) w):=by
 have HC:=Lib.hid (idx178_plain g Q p l v w hfn hv hl HG)
 have HD:=Lib.hid (idxFrom_any p l 0)
 clear HG hv
 go_enter Tryz.func113,Tryz.ntmps113
 go_wp2_with fail
 refine Calls.mono HC.out ?_
 rintro e w1 ⟨rfl,hb1⟩
 go_wp2_with fail
 exact bodyPost_ret (v:=.bool (l.any p)) (by simp [results,Tryz.results113,go_sem,← HD.out]) rfl ⟨rfl,hb1⟩
set_option maxRecDepth 100000 in
set_option maxHeartbeats 4000000 in
theorem not114_any (g : Nat) (cb : Nat) (Q : Nat→Prop) (a : Ex) (cs : List Value) (b : Bool) (w : World) (hfn : ∀ args w,(callFunc g args).run Tryz.prog w = .ok (.enter g args) w) (hc : w.cell? ⟨cb,0,none⟩ = some (.func (.func g) #[] #[])) (hin : exE.In Q w a cs)
  (HG : Hid (∀ W,Below w.heap.size w W→exE.In Q W a cs→Calls Tryz.prog g #[exE.val cs] W (Says (.bool b) W))) :
  Calls Tryz.prog 114 #[exE.val cs,.pointer (some ⟨cb,0,none⟩)] w (Says (.bool (!b)) w):=by
 have HX : Hid (∀ W,Below w.heap.size w W→Calls Tryz.prog g #[exE.val cs] W (Says (.bool b) W)):=fun W hW=>HG.out W hW (exE.move (fun c hlt k=>⟨k,hW.block c hlt⟩) hin)
 clear HG
 have hin0:=hin
 obtain ⟨op,t,n,v,args⟩:=a
 obtain ⟨ad0,acs,rfl,⟨ad,ac,rfl,_⟩,_⟩:=hin
 change Hid (∀ W,Below w.heap.size w W→Calls Tryz.prog g #[.agg #[.int .i64 op,.string ⟨t.toArray⟩,.string ⟨n.toArray⟩,.int .i64 v.k,.int .i64 v.n,.string v.s,.slice ad args.length ac]] W (Says (.bool b) W)) at HX
 show Calls Tryz.prog 114 #[.agg #[.int .i64 op,.string ⟨t.toArray⟩,.string ⟨n.toArray⟩,.int .i64 v.k,.int .i64 v.n,.string v.s,.slice ad args.length ac],.pointer (some ⟨cb,0,none⟩)] w _
 have y1 : (w.alloc (.cells #[.int .i64 op,.string ⟨t.toArray⟩,.string ⟨n.toArray⟩,.int .i64 v.k,.int .i64 v.n,.string v.s,.slice ad args.length ac] 44)).cell? ⟨cb,0,none⟩ = some (.func (.func g) #[] #[]):=((Below.refl _ _).alloc (Nat.le_refl _) _).cell_kept hc
 clear hc
 go_enter Tryz.func114,Tryz.ntmps114
 go_wp2_with fail
 refine Calls.mono (HX.out _ ((Below.refl _ _).alloc (Nat.le_refl _) _)) ?_
 rintro e w1 ⟨rfl,hb1⟩
 go_wp2_with fail
 exact bodyPost_ret (v:=.bool (!b)) (by simp [results,Tryz.results114,go_sem]) rfl ⟨rfl,((Below.refl _ _).alloc (Nat.le_refl _) _).step hb1⟩
set_option maxRecDepth 100000 in
set_option maxHeartbeats 4000000 in
theorem all49_any (g : Nat) (Q : Nat→Prop) (p : Ex→Bool) (least most : Int) (l : List Ex) (v : Value) (w : World) (hfn : ∀ args w,(callFunc g args).run Tryz.prog w = .ok (.enter g args) w) (hv : RSl exE Q w v l) (hm : most≤4611686018427387904)
  (HG : Hid (∀ W a cs,Below w.heap.size w W→a ∈ l→exE.In Q W a cs→Calls Tryz.prog g #[exE.val cs] W (Says (.bool (p a)) W))) :
  Calls Tryz.prog 49 #[v,.int .i64 least,.int .i64 most,.func (.func g) #[] #[]] w (Says (.bool (allR l least most p)) w):=by
 have hb0 : Below w.heap.size w (w.alloc (.cells #[.func (.func g) #[] #[]] 102)):=(Below.refl _ _).alloc (Nat.le_refl _) _
 have HC : Hid (l.length≤4611686018427387904→Calls Tryz.prog 113 #[v,.func (.func 114) #[] #[.pointer (some ⟨w.heap.size,0,none⟩)]] (w.alloc (.cells #[.func (.func g) #[] #[]] 102)) (Says (.bool (l.any fun a=>!p a)) (w.alloc (.cells #[.func (.func g) #[] #[]] 102)))):=by
  intro hl
  refine contains113_any 114 w.heap.size Q _ l v _ enters114 (hv.kept (by decide) hb0) hl ?_
  intro W a cs hW ha hin
  have hbW : Below w.heap.size w W:=hb0.trans (hW.mono (by simp))
  refine not114_any g w.heap.size Q a cs (p a) W hfn (hW.cell_kept ?_) hin (fun W' hW' hin'=>HG.out W' a cs (hbW.step hW') ha hin')
  simp only [World.cell?,World.alloc_heap_new]
  rfl
 have HE:=Lib.hid (allR_eq l least most p)
 have HN:=Lib.hid (any_not p l)
 have HB:=Lib.hid hb0
 obtain ⟨a0,cap0,rfl⟩:=hv.slice
 clear HG hb0 hv
 go_enter Tryz.func49,Tryz.ntmps49
 by_cases h1 : least≤(l.length : Int)
 ·by_cases h2 : (l.length : Int)≤most
  ·have HR : Hid (allR l least most p = !(l.any fun a=>!p a)):=by show _ = _; rw [HE.out,if_pos h1,if_pos h2,HN.out]
   clear HE HN
   go_wp2_with fail
   refine Calls.mono (HC.out (by omega)) ?_
   rintro e w1 ⟨rfl,hb1⟩
   have HB1:=Lib.hid (HB.out.step hb1)
   clear hb1 HC HB
   generalize (l.any fun a=>!p a) = b at *
   go_wp2_with fail
   exact bodyPost_ret (v:=.bool (!b)) (by simp [results,Tryz.results49,go_sem]) rfl ⟨by rw [HR.out],HB1.out⟩
  ·have HR : Hid (allR l least most p = false):=by show _ = _; rw [HE.out,if_pos h1,if_neg h2]
   clear HE HN HC
   go_wp2_with fail
   exact bodyPost_ret (v:=.bool false) (by simp [results,Tryz.results49,go_sem]) rfl ⟨by rw [HR.out],HB.out⟩
 ·have HR : Hid (allR l least most p = false):=by show _ = _; rw [HE.out,if_neg h1]
  clear HE HN HC
  go_wp2_with fail
  exact bodyPost_ret (v:=.bool false) (by simp [results,Tryz.results49,go_sem]) rfl ⟨by rw [HR.out],HB.out⟩
set_option maxRecDepth 100000 in
set_option maxHeartbeats 4000000 in
theorem idx228_any (g : Nat) (qb : Nat) (Q : Nat→Prop) (p : Pk→Bool) (l : List Pk) (v : Value) (w : World) (hfn : ∀ args w,(callFunc g args).run Tryz.prog w = .ok (.enter g args) w) (hv : RSl pkE Q w v l) (hl : l.length≤4611686018427387904)
  (HG : Hid (∀ W a cs,Below w.heap.size w W→a ∈ l→pkE.In Q W a cs→Calls Tryz.prog g #[pkE.val cs,.pointer (some ⟨qb,0,none⟩)] W (Says (.bool (p a)) W))) :
  Calls Tryz.prog 228 #[v,.func (.func g) #[] #[.pointer (some ⟨qb,0,none⟩)]] w (Says (.int .i64 (idxFrom p 0 l)) w):=by
 obtain ⟨a0,cap0,rfl⟩:=hv.slice
 have HV:=Lib.hid hv
 clear hv
 go_enter Tryz.func228,Tryz.ntmps228
 go_wp2_with fail
 go_loopw [5,8] (fun _ i wr=>∃ k : Nat,k≤l.length∧i = .int .i64 k∧Hid (idxFrom p 0 l = idxFrom p k (l.drop k))∧Hid (Below w.heap.size w wr)) (fun _ i _=>l.length - (intOf i).toNat)
 case atStart=>exact ⟨0,by omega,rfl,rfl,Below.refl _ _⟩
 case round=>
  obtain ⟨k,hk,rfl,HK,HB⟩:=hrel
  by_cases hlt : k < l.length
  ·obtain ⟨a,hx⟩ : ∃ x,l[k]? = some x:=⟨l[k],by simp [hlt]⟩
   obtain ⟨b,o,cap,cs,hbo,hin,hat⟩:=((HV.out.kept (by decide) HB.out)).at hx
   injection hbo with e1 _ e2
   subst e1
   subst e2
   have C1:=Lib.hid (HG.out wr a cs HB.out (List.mem_of_getElem? hx) hin)
   have hst : idxFrom p k (l.drop k) = if p a then (k : Int) else idxFrom p (k + 1) (l.drop (k + 1)):=by
    obtain ⟨h1,rfl⟩:=List.getElem?_eq_some_iff.1 hx
    rw [List.drop_eq_getElem_cons h1,idxFrom]
   have HST : Hid (idxFrom p 0 l = _):=HK.out.trans hst
   have hin0:=hin
   obtain ⟨fn,⟨op,t,n,v,args⟩⟩:=a
   obtain ⟨c0,rfl,ad0,acs,rfl,⟨ad,ac,rfl,_⟩,_⟩:=hin
   have x0:=hat 0 _ rfl
   have x1:=hat 1 _ rfl
   have x2:=hat 2 _ rfl
   have x3:=hat 3 _ rfl
   have x4:=hat 4 _ rfl
   have x5:=hat 5 _ rfl
   have x6:=hat 6 _ rfl
   have x7:=hat 7 _ rfl
   simp only [show pkE.k = 8 from rfl,Nat.add_zero] at x0 x1 x2 x3 x4 x5 x6 x7
   change Hid (Calls Tryz.prog g #[.agg #[.int .i64 fn,.int .i64 op,.string ⟨t.toArray⟩,.string ⟨n.toArray⟩,.int .i64 v.k,.int .i64 v.n,.string v.s,.slice ad args.length ac],.pointer (some ⟨qb,0,none⟩)] wr (Says (.bool (p (Pk.mk fn (.mk op t n v args)))) wr)) at C1
   clear hst HK hx hat
   by_cases hn : p (Pk.mk fn (.mk op t n v args)) = true
   ·have HR : Hid (idxFrom p 0 l = (k : Int)):=by show _ = _; rw [HST.out,if_pos hn]
    rw [hn] at C1
    clear HST hn
    go_wp2_with fail
    refine Calls.mono C1.out ?_
    rintro e w1 ⟨rfl,hb1⟩
    have HB1:=Lib.hid (HB.out.step hb1)
    clear hb1 x0 x1 x2 x3 x4 x5 x6 x7
    go_wp2_with fail
    go_returns
    exact ⟨by rw [HR.out]; rfl,HB1.out⟩
   ·have HR : Hid (idxFrom p 0 l = idxFrom p (k + 1) (l.drop (k + 1))):=by show _ = _; rw [HST.out,if_neg hn]
    have hd : p (Pk.mk fn (.mk op t n v args)) = false:=by simpa using hn
    rw [hd] at C1
    clear HST hn hd
    go_wp2_with fail
    refine Calls.mono C1.out ?_
    rintro e w1 ⟨rfl,hb1⟩
    have HB1:=Lib.hid (HB.out.step hb1)
    clear hb1 x0 x1 x2 x3 x4 x5 x6 x7
    go_wp2_with fail
    go_roundw
    case rel=>exact ⟨k + 1,by omega,by go_num,HR.out,HB1.out⟩
    case measure=>simp [intOf]; omega
  ·obtain rfl : k = l.length:=by omega
   have HR : Hid (idxFrom p 0 l = -1):=by show _ = _; rw [HK.out,List.drop_length]; rfl
   clear HK
   go_wp2_with fail
   go_returns
   exact ⟨by rw [HR.out]; rfl,HB.out⟩
set_option maxRecDepth 100000 in
set_option maxHeartbeats 4000000 in
theorem contains180_any (g : Nat) (qb : Nat) (Q : Nat→Prop) (p : Pk→Bool) (l : List Pk) (v : Value) (w : World) (hfn : ∀ args w,(callFunc g args).run Tryz.prog w = .ok (.enter g args) w) (hv : RSl pkE Q w v l) (hl : l.length≤4611686018427387904)
  (HG : Hid (∀ W a cs,Below w.heap.size w W→a ∈ l→pkE.In Q W a cs→Calls Tryz.prog g #[pkE.val cs,.pointer (some ⟨qb,0,none⟩)] W (Says (.bool (p a)) W))) :
  Calls Tryz.prog 180 #[v,.func (.func g) #[] #[.pointer (some ⟨qb,0,none⟩)]] w (Says (.bool (l.any p)) w):=by
 have HC:=Lib.hid (idx228_any g qb Q p l v w hfn hv hl HG)
 have HD:=Lib.hid (idxFrom_any p l 0)
 clear HG hv
 go_enter Tryz.func180,Tryz.ntmps180
 go_wp2_with fail
 refine Calls.mono HC.out ?_
 rintro e w1 ⟨rfl,hb1⟩
 go_wp2_with fail
 exact bodyPost_ret (v:=.bool (l.any p)) (by simp [results,Tryz.results180,go_sem,← HD.out]) rfl ⟨rfl,hb1⟩
theorem enters181 : ∀ args w,(callFunc 181 args).run Tryz.prog w = .ok (.enter 181 args) w:=enters_of Tryz.func181 (by kernel_rfl) rfl
set_option maxRecDepth 100000 in
set_option maxHeartbeats 4000000 in
theorem not181_any (g : Nat) (cb : Nat) (Q : Nat→Prop) (a : Pk) (cs : List Value) (b : Bool) (w : World) (hfn : ∀ args w,(callFunc g args).run Tryz.prog w = .ok (.enter g args) w) (hc : w.cell? ⟨cb,0,none⟩ = some (.func (.func g) #[] #[])) (hin : pkE.In Q w a cs)
  (HG : Hid (∀ W,Below w.heap.size w W→pkE.In Q W a cs→Calls Tryz.prog g #[pkE.val cs] W (Says (.bool b) W))) :
  Calls Tryz.prog 181 #[pkE.val cs,.pointer (some ⟨cb,0,none⟩)] w (Says (.bool (!b)) w):=by
 have HX : Hid (∀ W,Below w.heap.size w W→Calls Tryz.prog g #[pkE.val cs] W (Says (.bool b) W)):=fun W hW=>HG.out W hW (pkE.move (fun c hlt k=>⟨k,hW.block c hlt⟩) hin)
 clear HG
 have hin0:=hin
 obtain ⟨fn,⟨op,t,n,v,args⟩⟩:=a
 obtain ⟨c0,rfl,ad0,acs,rfl,⟨ad,ac,rfl,_⟩,_⟩:=hin
 change Hid (∀ W,Below w.heap.size w W→Calls Tryz.prog g #[.agg #[.int .i64 fn,.int .i64 op,.string ⟨t.toArray⟩,.string ⟨n.toArray⟩,.int .i64 v.k,.int .i64 v.n,.string v.s,.slice ad args.length ac]] W (Says (.bool b) W)) at HX
 show Calls Tryz.prog 181 #[.agg #[.int .i64 fn,.int .i64 op,.string ⟨t.toArray⟩,.string ⟨n.toArray⟩,.int .i64 v.k,.int .i64 v.n,.string v.s,.slice ad args.length ac],.pointer (some ⟨cb,0,none⟩)] w _
 have y1 : (w.alloc (.cells #[.int .i64 fn,.int .i64 op,.string ⟨t.toArray⟩,.string ⟨n.toArray⟩,.int .i64 v.k,.int .i64 v.n,.string v.s,.slice ad args.length ac] 132)).cell? ⟨cb,0,none⟩ = some (.func (.func g) #[] #[]):=((Below.refl _ _).alloc (Nat.le_refl _) _).cell_kept hc
 clear hc
 go_enter Tryz.func181,Tryz.ntmps181
 go_wp2_with fail
 refine Calls.mono (HX.out _ ((Below.refl _ _).alloc (Nat.le_refl _) _)) ?_
 rintro e w1 ⟨rfl,hb1⟩
 go_wp2_with fail
 exact bodyPost_ret (v:=.bool (!b)) (by simp [results,Tryz.results181,go_sem]) rfl ⟨rfl,((Below.refl _ _).alloc (Nat.le_refl _) _).step hb1⟩
set_option maxRecDepth 100000 in
set_option maxHeartbeats 4000000 in
theorem all117_any (g : Nat) (Q : Nat→Prop) (p : Pk→Bool) (least most : Int) (l : List Pk) (v : Value) (w : World) (hfn : ∀ args w,(callFunc g args).run Tryz.prog w = .ok (.enter g args) w) (hv : RSl pkE Q w v l) (hm : most≤4611686018427387904)
  (HG : Hid (∀ W a cs,Below w.heap.size w W→a ∈ l→pkE.In Q W a cs→Calls Tryz.prog g #[pkE.val cs] W (Says (.bool (p a)) W))) :
  Calls Tryz.prog 117 #[v,.int .i64 least,.int .i64 most,.func (.func g) #[] #[]] w (Says (.bool (allR l least most p)) w):=by
 have hb0 : Below w.heap.size w (w.alloc (.cells #[.func (.func g) #[] #[]] 179)):=(Below.refl _ _).alloc (Nat.le_refl _) _
 have HC : Hid (l.length≤4611686018427387904→Calls Tryz.prog 180 #[v,.func (.func 181) #[] #[.pointer (some ⟨w.heap.size,0,none⟩)]] (w.alloc (.cells #[.func (.func g) #[] #[]] 179)) (Says (.bool (l.any fun a=>!p a)) (w.alloc (.cells #[.func (.func g) #[] #[]] 179)))):=by
  intro hl
  refine contains180_any 181 w.heap.size Q _ l v _ enters181 (hv.kept (by decide) hb0) hl ?_
  intro W a cs hW ha hin
  have hbW : Below w.heap.size w W:=hb0.trans (hW.mono (by simp))
  refine not181_any g w.heap.size Q a cs (p a) W hfn (hW.cell_kept ?_) hin (fun W' hW' hin'=>HG.out W' a cs (hbW.step hW') ha hin')
  simp only [World.cell?,World.alloc_heap_new]
  rfl
 have HE:=Lib.hid (allR_eq l least most p)
 have HN:=Lib.hid (any_not p l)
 have HB:=Lib.hid hb0
 obtain ⟨a0,cap0,rfl⟩:=hv.slice
 clear HG hb0 hv
 go_enter Tryz.func117,Tryz.ntmps117
 by_cases h1 : least≤(l.length : Int)
 ·by_cases h2 : (l.length : Int)≤most
  ·have HR : Hid (allR l least most p = !(l.any fun a=>!p a)):=by show _ = _; rw [HE.out,if_pos h1,if_pos h2,HN.out]
   clear HE HN
   go_wp2_with fail
   refine Calls.mono (HC.out (by omega)) ?_
   rintro e w1 ⟨rfl,hb1⟩
   have HB1:=Lib.hid (HB.out.step hb1)
   clear hb1 HC HB
   generalize (l.any fun a=>!p a) = b at *
   go_wp2_with fail
   exact bodyPost_ret (v:=.bool (!b)) (by simp [results,Tryz.results117,go_sem]) rfl ⟨by rw [HR.out],HB1.out⟩
  ·have HR : Hid (allR l least most p = false):=by show _ = _; rw [HE.out,if_pos h1,if_neg h2]
   clear HE HN HC
   go_wp2_with fail
   exact bodyPost_ret (v:=.bool false) (by simp [results,Tryz.results117,go_sem]) rfl ⟨by rw [HR.out],HB.out⟩
 ·have HR : Hid (allR l least most p = false):=by show _ = _; rw [HE.out,if_neg h1]
  clear HE HN HC
  go_wp2_with fail
  exact bodyPost_ret (v:=.bool false) (by simp [results,Tryz.results117,go_sem]) rfl ⟨by rw [HR.out],HB.out⟩
set_option maxRecDepth 100000 in
set_option maxHeartbeats 4000000 in
theorem idx229_any (g : Nat) (qb : Nat) (Q : Nat→Prop) (p : Srt→Bool) (l : List Srt) (v : Value) (w : World) (hfn : ∀ args w,(callFunc g args).run Tryz.prog w = .ok (.enter g args) w) (hv : RSl srtE Q w v l) (hl : l.length≤4611686018427387904)
  (HG : Hid (∀ W a cs,Below w.heap.size w W→a ∈ l→srtE.In Q W a cs→Calls Tryz.prog g #[srtE.val cs,.pointer (some ⟨qb,0,none⟩)] W (Says (.bool (p a)) W))) :
  Calls Tryz.prog 229 #[v,.func (.func g) #[] #[.pointer (some ⟨qb,0,none⟩)]] w (Says (.int .i64 (idxFrom p 0 l)) w):=by
 obtain ⟨a0,cap0,rfl⟩:=hv.slice
 have HV:=Lib.hid hv
 clear hv
 go_enter Tryz.func229,Tryz.ntmps229
 go_wp2_with fail
 go_loopw [5,8] (fun _ i wr=>∃ k : Nat,k≤l.length∧i = .int .i64 k∧Hid (idxFrom p 0 l = idxFrom p k (l.drop k))∧Hid (Below w.heap.size w wr)) (fun _ i _=>l.length - (intOf i).toNat)
 case atStart=>exact ⟨0,by omega,rfl,rfl,Below.refl _ _⟩
 case round=>
  obtain ⟨k,hk,rfl,HK,HB⟩:=hrel
  by_cases hlt : k < l.length
  ·obtain ⟨a,hx⟩ : ∃ x,l[k]? = some x:=⟨l[k],by simp [hlt]⟩
   obtain ⟨b,o,cap,cs,hbo,hin,hat⟩:=((HV.out.kept (by decide) HB.out)).at hx
   injection hbo with e1 _ e2
   subst e1
   subst e2
   have C1:=Lib.hid (HG.out wr a cs HB.out (List.mem_of_getElem? hx) hin)
   have hst : idxFrom p k (l.drop k) = if p a then (k : Int) else idxFrom p (k + 1) (l.drop (k + 1)):=by
    obtain ⟨h1,rfl⟩:=List.getElem?_eq_some_iff.1 hx
    rw [List.drop_eq_getElem_cons h1,idxFrom]
   have HST : Hid (idxFrom p 0 l = _):=HK.out.trans hst
   have h1 : cs = [.int .i64 a.place,.bool a.down]:=hin
   subst h1
   have x0:=hat 0 _ rfl
   have x1:=hat 1 _ rfl
   simp only [show srtE.k = 2 from rfl,Nat.add_zero] at x0 x1
   change Hid (Calls Tryz.prog g #[.agg #[.int .i64 a.place,.bool a.down],.pointer (some ⟨qb,0,none⟩)] wr (Says (.bool (p a)) wr)) at C1
   clear hst HK hx hat
   by_cases hn : p a = true
   ·have HR : Hid (idxFrom p 0 l = (k : Int)):=by show _ = _; rw [HST.out,if_pos hn]
    rw [hn] at C1
    clear HST hn
    go_wp2_with fail
    refine Calls.mono C1.out ?_
    rintro e w1 ⟨rfl,hb1⟩
    have HB1:=Lib.hid (HB.out.step hb1)
    clear hb1 x0 x1
    go_wp2_with fail
    go_returns
    exact ⟨by rw [HR.out]; rfl,HB1.out⟩
   ·have HR : Hid (idxFrom p 0 l = idxFrom p (k + 1) (l.drop (k + 1))):=by show _ = _; rw [HST.out,if_neg hn]
    have hd : p a = false:=by simpa using hn
    rw [hd] at C1
    clear HST hn hd
    go_wp2_with fail
    refine Calls.mono C1.out ?_
    rintro e w1 ⟨rfl,hb1⟩
    have HB1:=Lib.hid (HB.out.step hb1)
    clear hb1 x0 x1
    go_wp2_with fail
    go_roundw
    case rel=>exact ⟨k + 1,by omega,by go_num,HR.out,HB1.out⟩
    case measure=>simp [intOf]; omega
  ·obtain rfl : k = l.length:=by omega
   have HR : Hid (idxFrom p 0 l = -1):=by show _ = _; rw [HK.out,List.drop_length]; rfl
   clear HK
   go_wp2_with fail
   go_returns
   exact ⟨by rw [HR.out]; rfl,HB.out⟩
set_option maxRecDepth 100000 in
set_option maxHeartbeats 4000000 in
theorem contains182_any (g : Nat) (qb : Nat) (Q : Nat→Prop) (p : Srt→Bool) (l : List Srt) (v : Value) (w : World) (hfn : ∀ args w,(callFunc g args).run Tryz.prog w = .ok (.enter g args) w) (hv : RSl srtE Q w v l) (hl : l.length≤4611686018427387904)
  (HG : Hid (∀ W a cs,Below w.heap.size w W→a ∈ l→srtE.In Q W a cs→Calls Tryz.prog g #[srtE.val cs,.pointer (some ⟨qb,0,none⟩)] W (Says (.bool (p a)) W))) :
  Calls Tryz.prog 182 #[v,.func (.func g) #[] #[.pointer (some ⟨qb,0,none⟩)]] w (Says (.bool (l.any p)) w):=by
 have HC:=Lib.hid (idx229_any g qb Q p l v w hfn hv hl HG)
 have HD:=Lib.hid (idxFrom_any p l 0)
 clear HG hv
 go_enter Tryz.func182,Tryz.ntmps182
 go_wp2_with fail
 refine Calls.mono HC.out ?_
 rintro e w1 ⟨rfl,hb1⟩
 go_wp2_with fail
 exact bodyPost_ret (v:=.bool (l.any p)) (by simp [results,Tryz.results182,go_sem,← HD.out]) rfl ⟨rfl,hb1⟩
theorem enters183 : ∀ args w,(callFunc 183 args).run Tryz.prog w = .ok (.enter 183 args) w:=enters_of Tryz.func183 (by kernel_rfl) rfl
set_option maxRecDepth 100000 in
set_option maxHeartbeats 4000000 in
theorem not183_any (g : Nat) (cb : Nat) (Q : Nat→Prop) (a : Srt) (cs : List Value) (b : Bool) (w : World) (hfn : ∀ args w,(callFunc g args).run Tryz.prog w = .ok (.enter g args) w) (hc : w.cell? ⟨cb,0,none⟩ = some (.func (.func g) #[] #[])) (hin : srtE.In Q w a cs)
  (HG : Hid (∀ W,Below w.heap.size w W→srtE.In Q W a cs→Calls Tryz.prog g #[srtE.val cs] W (Says (.bool b) W))) :
  Calls Tryz.prog 183 #[srtE.val cs,.pointer (some ⟨cb,0,none⟩)] w (Says (.bool (!b)) w):=by
 have HX : Hid (∀ W,Below w.heap.size w W→Calls Tryz.prog g #[srtE.val cs] W (Says (.bool b) W)):=fun W hW=>HG.out W hW (srtE.move (fun c hlt k=>⟨k,hW.block c hlt⟩) hin)
 clear HG
 have h1 : cs = [.int .i64 a.place,.bool a.down]:=hin
 subst h1
 change Hid (∀ W,Below w.heap.size w W→Calls Tryz.prog g #[.agg #[.int .i64 a.place,.bool a.down]] W (Says (.bool b) W)) at HX
 show Calls Tryz.prog 183 #[.agg #[.int .i64 a.place,.bool a.down],.pointer (some ⟨cb,0,none⟩)] w _
 have y1 : (w.alloc (.cells #[.int .i64 a.place,.bool a.down] 162)).cell? ⟨cb,0,none⟩ = some (.func (.func g) #[] #[]):=((Below.refl _ _).alloc (Nat.le_refl _) _).cell_kept hc
 clear hc
 go_enter Tryz.func183,Tryz.ntmps183
 go_wp2_with fail
 refine Calls.mono (HX.out _ ((Below.refl _ _).alloc (Nat.le_refl _) _)) ?_
 rintro e w1 ⟨rfl,hb1⟩
 go_wp2_with fail
 exact bodyPost_ret (v:=.bool (!b)) (by simp [results,Tryz.results183,go_sem]) rfl ⟨rfl,((Below.refl _ _).alloc (Nat.le_refl _) _).step hb1⟩
set_option maxRecDepth 100000 in
set_option maxHeartbeats 4000000 in
theorem all120_any (g : Nat) (Q : Nat→Prop) (p : Srt→Bool) (least most : Int) (l : List Srt) (v : Value) (w : World) (hfn : ∀ args w,(callFunc g args).run Tryz.prog w = .ok (.enter g args) w) (hv : RSl srtE Q w v l) (hm : most≤4611686018427387904)
  (HG : Hid (∀ W a cs,Below w.heap.size w W→a ∈ l→srtE.In Q W a cs→Calls Tryz.prog g #[srtE.val cs] W (Says (.bool (p a)) W))) :
  Calls Tryz.prog 120 #[v,.int .i64 least,.int .i64 most,.func (.func g) #[] #[]] w (Says (.bool (allR l least most p)) w):=by
 have hb0 : Below w.heap.size w (w.alloc (.cells #[.func (.func g) #[] #[]] 181)):=(Below.refl _ _).alloc (Nat.le_refl _) _
 have HC : Hid (l.length≤4611686018427387904→Calls Tryz.prog 182 #[v,.func (.func 183) #[] #[.pointer (some ⟨w.heap.size,0,none⟩)]] (w.alloc (.cells #[.func (.func g) #[] #[]] 181)) (Says (.bool (l.any fun a=>!p a)) (w.alloc (.cells #[.func (.func g) #[] #[]] 181)))):=by
  intro hl
  refine contains182_any 183 w.heap.size Q _ l v _ enters183 (hv.kept (by decide) hb0) hl ?_
  intro W a cs hW ha hin
  have hbW : Below w.heap.size w W:=hb0.trans (hW.mono (by simp))
  refine not183_any g w.heap.size Q a cs (p a) W hfn (hW.cell_kept ?_) hin (fun W' hW' hin'=>HG.out W' a cs (hbW.step hW') ha hin')
  simp only [World.cell?,World.alloc_heap_new]
  rfl
 have HE:=Lib.hid (allR_eq l least most p)
 have HN:=Lib.hid (any_not p l)
 have HB:=Lib.hid hb0
 obtain ⟨a0,cap0,rfl⟩:=hv.slice
 clear HG hb0 hv
 go_enter Tryz.func120,Tryz.ntmps120
 by_cases h1 : least≤(l.length : Int)
 ·by_cases h2 : (l.length : Int)≤most
  ·have HR : Hid (allR l least most p = !(l.any fun a=>!p a)):=by show _ = _; rw [HE.out,if_pos h1,if_pos h2,HN.out]
   clear HE HN
   go_wp2_with fail
   refine Calls.mono (HC.out (by omega)) ?_
   rintro e w1 ⟨rfl,hb1⟩
   have HB1:=Lib.hid (HB.out.step hb1)
   clear hb1 HC HB
   generalize (l.any fun a=>!p a) = b at *
   go_wp2_with fail
   exact bodyPost_ret (v:=.bool (!b)) (by simp [results,Tryz.results120,go_sem]) rfl ⟨by rw [HR.out],HB1.out⟩
  ·have HR : Hid (allR l least most p = false):=by show _ = _; rw [HE.out,if_pos h1,if_neg h2]
   clear HE HN HC
   go_wp2_with fail
   exact bodyPost_ret (v:=.bool false) (by simp [results,Tryz.results120,go_sem]) rfl ⟨by rw [HR.out],HB.out⟩
 ·have HR : Hid (allR l least most p = false):=by show _ = _; rw [HE.out,if_neg h1]
  clear HE HN HC
  go_wp2_with fail
  exact bodyPost_ret (v:=.bool false) (by simp [results,Tryz.results120,go_sem]) rfl ⟨by rw [HR.out],HB.out⟩
theorem str_nil (s : ByteArray) : s = ⟨#[]⟩↔s.toList = []:=by
 rw [← toList_inj]
 have : (⟨#[]⟩ : ByteArray).toList = []:=by rw [ByteArray.toList_eq]
 rw [this]
set_option maxRecDepth 100000 in
set_option maxHeartbeats 4000000 in
theorem isZero_any (Q : Nat→Prop) (e : Ex) (cs : List Value) (w : World) (h : ExIn Q w e cs) : Calls Tryz.prog 66 #[.agg cs.toArray] w (Says (.bool e.isZero) w):=by
 obtain ⟨op,t,n,v,args⟩:=e
 obtain ⟨ad0,acs,rfl,⟨ad,ac,rfl,_⟩,_⟩:=h
 show Calls Tryz.prog 66 #[.agg #[.int .i64 op,.string ⟨t.toArray⟩,.string ⟨n.toArray⟩,.int .i64 v.k,.int .i64 v.n,.string v.s,.slice ad args.length ac]] w _
 go_enter Tryz.func66,Tryz.ntmps66
 go_wp2_with fail
 all_goals go_returns
 all_goals refine ⟨ret_bool ?_,by go_grown⟩
 all_goals (simp [Ex.isZero,V.null,V.ext_iff,str_nil, *] <;> (cases args <;> simp <;> omega))
theorem exsIn_lIn {Q : Nat→Prop} {w : World} : ∀ {l : List Ex} {acs : List Value},ExsIn Q w l acs→LIn exE Q w l acs
 | [],acs,h=>h
 | e :: l,acs,h=>by
  obtain ⟨c1,c2,rfl,h1,h2⟩:=h
  exact ⟨c1,c2,rfl,h1,exsIn_lIn h2⟩
theorem exSl_rSl {Q : Nat→Prop} {w : World} {v : Value} {l : List Ex} (h : ExSl Q w v l) : RSl exE Q w v l:=by
 obtain ⟨acs,h1,h2⟩:=h
 exact ⟨acs,h1,exsIn_lIn h2⟩
set_option maxRecDepth 100000 in
set_option maxHeartbeats 4000000 in
theorem size_any (Q : Nat→Prop) (e : Ex) : ∀ (cs : List Value) (most : Int) (w : World),ExIn Q w e cs→e.Wf→0≤most→most≤1000000→Calls Tryz.prog 115 #[.agg cs.toArray,.int .i64 most] w (Says (.int .i64 (sizeE e most)) w):=by
 refine Ex.ind (P:=fun e=>∀ (cs : List Value) (most : Int) (w : World),ExIn Q w e cs→e.Wf→0≤most→most≤1000000→Calls Tryz.prog 115 #[.agg cs.toArray,.int .i64 most] w (Says (.int .i64 (sizeE e most)) w)) ?_ e
 intro op t n v args ih cs most w h hwf hm0 hm1
 have hargs : ∀ a ∈ args,a.Wf:=exsWf_mem hwf.2.2
 obtain ⟨v0,rfl,hsl⟩:=exIn_of h
 obtain ⟨acs,hsl1,hsl2⟩:=hsl
 have HV : Hid (RSl exE Q w v0 args):=⟨acs,hsl1,exsIn_lIn hsl2⟩
 obtain ⟨ad,ac,rfl⟩:=HV.out.slice
 have IH:=Lib.hid ih
 have HA:=Lib.hid hargs
 clear hwf h hsl1 hsl2 ih hargs
 show Calls Tryz.prog 115 #[.agg #[.int .i64 op,.string ⟨t.toArray⟩,.string ⟨n.toArray⟩,.int .i64 v.k,.int .i64 v.n,.string v.s,.slice ad args.length ac],.int .i64 most] w _
 have HB0 : Hid (Below w.heap.size w (w.alloc (.cells #[.int .i64 op,.string ⟨t.toArray⟩,.string ⟨n.toArray⟩,.int .i64 v.k,.int .i64 v.n,.string v.s,.slice ad args.length ac] 44))):=(Below.refl _ _).alloc (Nat.le_refl _) _
 go_enter Tryz.func115,Tryz.ntmps115
 go_wp2_with fail
 go_loopw [5,11] (fun nv i wr=>∃ (k : Nat) (m : Int),k≤args.length∧i = .int .i64 k∧nv = .int .i64 m∧(k : Int) + 1≤m∧m≤most + 1∧Hid (sizeL args most 1 = sizeL (args.drop k) most m)∧Hid (Below w.heap.size w wr)) (fun _ i _=>args.length - (intOf i).toNat)
 case atStart=>exact ⟨0,1,by omega,rfl,rfl,by omega,by omega,rfl,HB0.out⟩
 case round=>
  obtain ⟨k,m,hk,rfl,rfl,hn1,hn2,HK,HB⟩:=hrel
  by_cases hlt : k < args.length
  ·obtain ⟨a,hx⟩ : ∃ x,args[k]? = some x:=⟨args[k],by simp [hlt]⟩
   obtain ⟨b,o,cap,cs,hbo,hin,hat⟩:=(HV.out.kept (by decide) HB.out).at hx
   injection hbo with e1 _ e2
   subst e1
   subst e2
   have hma:=List.mem_of_getElem? hx
   have hst : sizeL (args.drop k) most m = if most < m then m else sizeL (args.drop (k + 1)) most (m + sizeE a (most - m)):=by
    obtain ⟨h1,rfl⟩:=List.getElem?_eq_some_iff.1 hx
    rw [List.drop_eq_getElem_cons h1,sizeL]
   have HST : Hid (sizeL args most 1 = _):=HK.out.trans hst
   by_cases hmn : most < m
   ·have HR : Hid (sizeL args most 1 = m):=by show _ = _; rw [HST.out,if_pos hmn]
    have hin0:=hin
    obtain ⟨op',t',n',v',args'⟩:=a
    obtain ⟨ad0,acs',rfl,⟨ad',ac',rfl,_⟩,_⟩:=hin
    have x0:=hat 0 _ rfl
    have x1:=hat 1 _ rfl
    have x2:=hat 2 _ rfl
    have x3:=hat 3 _ rfl
    have x4:=hat 4 _ rfl
    have x5:=hat 5 _ rfl
    have x6:=hat 6 _ rfl
    simp only [show exE.k = 7 from rfl,Nat.add_zero] at x0 x1 x2 x3 x4 x5 x6
    clear hst HK hx hat HST hin0 hma
    go_wp2_with fail
    go_returns
    refine ⟨ret_int ?_,?_⟩
    ·rw [sizeE]; exact HR.out.symm
    ·exact HB.out.alloc (by have:=HB.out.size; omega) _
   ·have HR : Hid (sizeL args most 1 = sizeL (args.drop (k + 1)) most (m + sizeE a (most - m))):=by show _ = _; rw [HST.out,if_neg hmn]
    have hle:=sizeE_le a (most - m) (by omega)
    have C1:=Lib.hid (fun W (hW : Below w.heap.size w W) (hin : ExIn Q W a cs)=>IH.out a hma cs (most - m) W hin (HA.out a hma) (by omega) (by omega))
    obtain ⟨z,hz⟩ : ∃ z,sizeE a (most - m) = z:=⟨_,rfl⟩
    rw [hz] at HR C1 hle
    have hin0 : Hid (ExIn Q wr a cs):=hin
    obtain ⟨op',t',n',v',args'⟩:=a
    obtain ⟨ad0,acs',rfl,⟨ad',ac',rfl,_⟩,_⟩:=hin
    have x0:=hat 0 _ rfl
    have x1:=hat 1 _ rfl
    have x2:=hat 2 _ rfl
    have x3:=hat 3 _ rfl
    have x4:=hat 4 _ rfl
    have x5:=hat 5 _ rfl
    have x6:=hat 6 _ rfl
    simp only [show exE.k = 7 from rfl,Nat.add_zero] at x0 x1 x2 x3 x4 x5 x6
    have HB1 : Hid (Below w.heap.size w (wr.alloc (.cells #[.int .i64 op',.string ⟨t'.toArray⟩,.string ⟨n'.toArray⟩,.int .i64 v'.k,.int .i64 v'.n,.string v'.s,.slice ad' args'.length ac'] 44))):=HB.out.alloc (by have:=HB.out.size; omega) _
    have HI1 : Hid (ExIn Q (wr.alloc (.cells #[.int .i64 op',.string ⟨t'.toArray⟩,.string ⟨n'.toArray⟩,.int .i64 v'.k,.int .i64 v'.n,.string v'.s,.slice ad' args'.length ac'] 44)) _ _):=hin0.out.kept ((Below.refl _ _).alloc (Nat.le_refl _) _)
    have hw1 : wrap64 (most - m) = most - m:=IntWalk.wrap64_in _ ⟨by omega,by omega⟩
    have hw2 : wrap64 (m + z) = m + z:=IntWalk.wrap64_in _ ⟨by omega,by omega⟩
    clear hst HK hx hat HST hma hz HB
    go_wp2_with fail
    refine Calls.mono (C1.out _ HB1.out HI1.out) ?_
    rintro e w1 ⟨rfl,hb1⟩
    have HB2:=Lib.hid (HB1.out.step hb1)
    clear hb1 x0 x1 x2 x3 x4 x5 x6
    go_wp2_with fail
    go_roundw
    case rel=>exact ⟨k + 1,m + z,by omega,by go_num,rfl,by omega,by omega,HR.out,HB2.out⟩
    case measure=>simp [intOf]; omega
  ·obtain rfl : k = args.length:=by omega
   have HR : Hid (sizeL args most 1 = m):=by show _ = _; rw [HK.out,List.drop_length]; rfl
   clear HK
   go_wp2_with fail
   go_returns
   refine ⟨ret_int ?_,HB.out⟩
   rw [sizeE]
   exact HR.out.symm
set_option maxRecDepth 100000 in
set_option maxHeartbeats 4000000 in
theorem isValue_any (v : V) (hv : v.Wf) (w : World) : Calls Tryz.prog 48 #[v.val] w (Says (.bool v.right) w):=by
 have C1:=Lib.hid (fun W=>right_any v hv W)
 unfold V.val at *
 go_enter Tryz.func48,Tryz.ntmps48
 go_wp2_with fail
 refine Calls.mono (C1.out _) ?_
 rintro e w1 ⟨rfl,hb1⟩
 go_wp2_with fail
 exact bodyPost_ret (v:=.bool v.right) (by simp [results,Tryz.results48,go_sem]) rfl ⟨rfl,((Below.refl _ _).alloc (Nat.le_refl _) _).step hb1⟩
def arity (op : Int) : Int:=if op = 1∨op = 2 then 0 else if op = 14∨op = 15 then 1 else 2
theorem formed_eq (op : Int) (t n : Bytes) (v : V) (args : List Ex) : (Ex.mk op t n v args).formed =
  if op < 1∨15 < op∨(args.length : Int) ≠ arity op∨v.right = false then false else
  if op ≠ 2∧v ≠ V.null then false else
  if op = 1 then (if isName n = false∨(t ≠ []∧isName t = false) then false else args.all Ex.formed) else (if n ++ t = [] then args.all Ex.formed else false):=by
 rw [Ex.formed,formedL_all,nodeOk]
 show (decide (1≤op) && decide (op≤15) && decide ((args.length : Int) = arity op) && v.right && (decide (op = 2) || decide (v = V.null)) && _ && _) = _
 generalize args.all Ex.formed = b
 generalize v.right = r
 generalize isName n = i1
 generalize isName t = i2
 by_cases h1 : 1≤op
 ·by_cases h2 : op≤15
  ·by_cases h3 : (args.length : Int) = arity op
   ·have e : ¬ (op < 1):=by omega
    have e2 : ¬ (15 < op):=by omega
    cases r
    ·simp
    ·by_cases h4 : op = 2
     ·subst h4
      by_cases h5 : n ++ t = []
      ·simp_all
      ·simp only [h5]; simp_all
     ·by_cases h6 : v = V.null
      ·by_cases h7 : op = 1
       ·subst h7
        by_cases h8 : t = []
        ·cases i1 <;> simp_all
        ·cases i1 <;> cases i2 <;> simp_all
       ·by_cases h5 : n ++ t = []
        ·simp_all
        ·simp only [h5]; simp_all
      ·simp_all
   ·simp [h3]
  ·have e2 : 15 < op:=by omega
   simp [h2,e2]
 ·have e2 : op < 1:=by omega
  simp [h1,e2]
theorem catch_idle (a b : Value) (w : World) : CallsD Tryz.prog 53 #[a,b] .returning w fun e u' w'=>e = .returned (.tuple #[])∧u' = .returning∧w' = w:=by
 refine callsD_of_wpS Tryz.func53 rfl fun c₀ cs hu=>?_
 apply wpS_seq
 apply wpS_region
 simp [wpOpsS,go_sem,recoverD,hu,Tryz.ntmps53,Exit.thenS]
 apply wpS_seq
 apply wpS_region
 simp [wpOpsS,go_sem,Exit.thenS]
 refine wpS_cond (t:=false) (by simp [Act.eval,Array.replicate]) ?_
 simp only [Bool.false_eq_true,if_false]
 refine wpS_of_wp (wp_skip ?_)
 cases c₀
 simp_all [bodyPostS,results,Tryz.results53]
theorem ta_run (p x : Int) (w : World) : (Instr.typeAssert (.iface 26 (.agg #[.int .i64 p,.int .i64 x])) 20 26 true).run Tryz.prog w = .ok (.tuple #[.agg #[.int .i64 p,.int .i64 x],.bool true]) w:=by kernel_rfl
set_option maxRecDepth 100000 in
set_option maxHeartbeats 4000000 in
theorem catch_problem (rb qb : Nat) (p x : Int) (older : List PanicEntry) (cs : Array Value) (w : World) (h1 : w.heap[rb]? = some (.cells cs 50 (0,0))) (hcs : cs.size = (SV.arr {}).size) (h2 : w.heap[qb]? = some (.cells #[.int .i64 0,.int .i64 0] 26 (0,0))) (hne : rb ≠ qb) :
  CallsD Tryz.prog 53 #[.pointer (some ⟨rb,0,none⟩),.pointer (some ⟨qb,0,none⟩)] (.panicking ({ v:=.iface 26 (.agg #[.int .i64 p,.int .i64 x]),recovered:=false } :: older)) w fun e u' w'=>
   e = .returned (.tuple #[])∧u' = .panicking ({ v:=.iface 26 (.agg #[.int .i64 p,.int .i64 x]),recovered:=true } :: older)∧Turn (fun k=>k = rb∨k = qb) w w' ∧
    w'.heap[rb]? = some (.cells (SV.arr {}) 50 (0,0))∧w'.heap[qb]? = some (.cells #[.int .i64 p,.int .i64 x] 26 (0,0)):=by
 refine callsD_of_wpS Tryz.func53 rfl fun c₀ cs' hu=>?_
 apply wpS_seq
 apply wpS_region
 simp [wpOpsS,go_sem,recoverD,hu,Tryz.ntmps53,Exit.thenS]
 apply wpS_seq
 apply wpS_region
 simp [wpOpsS,go_sem,Exit.thenS]
 refine wpS_cond (t:=true) (by simp [Act.eval,Array.replicate]) ?_
 simp only [if_true]
 refine wpS_of_wp ?_
 have T:=fun w=>ta_run p x w
 have HQ : Hid (w.heap[qb]? = some (.cells #[.int .i64 0,.int .i64 0] 26 (0,0))):=h2
 have HR : Hid (w.heap[rb]? = some (.cells cs 50 (0,0))):=h1
 have hq : qb < w.heap.size:=(Array.getElem?_eq_some_iff.1 h2).1
 have hr : rb < w.heap.size:=(Array.getElem?_eq_some_iff.1 h1).1
 clear h1 h2
 show Code.wp _ _ _ { tmps:=#[.pointer (some ⟨rb,0,none⟩),.pointer (some ⟨qb,0,none⟩),.iface 26 (.agg #[.int .i64 p,.int .i64 x]),undef,undef,.iface 26 (.agg #[.int .i64 p,.int .i64 x]),.iface 26 (.agg #[.int .i64 p,.int .i64 x]),.bool true,undef,undef,undef,undef,undef,undef,undef,undef,undef,undef],defers:=[] } _
 go_wp2_with fail
 have hnew : (w.alloc (.cells #[.int .i64 p,.int .i64 x] 26)).heap[w.heap.size]? = some (.cells #[.int .i64 p,.int .i64 x] 26 (0,0)):=World.alloc_heap_new _ _
 have y0 : ∀ q : TurnW (fun k=>k = rb) (w.alloc (.cells #[.int .i64 p,.int .i64 x] 26)),q.w.cell? ⟨w.heap.size,0,none⟩ = some (.int .i64 p):=fun q=>turnW_cell q (by simp only [World.cell?,hnew]; rfl) (by show ¬ w.heap.size = rb; omega)
 have y1 : ∀ q : TurnW (fun k=>k = rb) (w.alloc (.cells #[.int .i64 p,.int .i64 x] 26)),q.w.cell? ⟨w.heap.size,1,none⟩ = some (.int .i64 x):=fun q=>turnW_cell q (by simp only [World.cell?,hnew]; rfl) (by show ¬ w.heap.size = rb; omega)
 have HR1 : Hid ((w.alloc (.cells #[.int .i64 p,.int .i64 x] 26)).heap[rb]? = some (.cells cs 50 (0,0))):=(Below.heap_alloc _ _ _ hr).trans HR.out
 have HQ1 : Hid ((w.alloc (.cells #[.int .i64 p,.int .i64 x] 26)).heap[qb]? = some (.cells #[.int .i64 0,.int .i64 0] 26 (0,0))):=(Below.heap_alloc _ _ _ hq).trans HQ.out
 have HT0 : Hid (Turn (fun k=>k = rb∨k = qb) w (w.alloc (.cells #[.int .i64 p,.int .i64 x] 26))):=Turn.of_below ((Below.refl _ _).alloc (Nat.le_refl _) _)
 have hs1 : (w.alloc (.cells #[.int .i64 p,.int .i64 x] 26)).heap.size = w.heap.size + 1:=by simp
 clear hnew HR HQ T
 refine wp_region_mixedT (fun k=>k = rb) 3 [(0,false),(1,false),(2,true)] (by kernel_rfl) (by kernel_rfl) ?_
 repeat (refine wpM_mildT rfl (fun K hK=>?_); go_simp; first | (refine hK _ ?_; clear hK K) | (apply Exists.intro; refine ⟨fun _=>?_,hK _ ?_⟩; (fail); clear hK K))
 refine wpM_effT rfl ?_
 intro w7 hb7 ht7
 have hr7 : w7.heap[rb]? = some (.cells cs 50 (0,0)):=hb7.blk_kept HR1.out
 have hq7 : w7.heap[qb]? = some (.cells #[.int .i64 0,.int .i64 0] 26 (0,0)):=hb7.blk_kept HQ1.out
 have HT7:=Lib.hid (HT0.out.trans ht7 (fun k _ h=>.inl h))
 refine wpList_store_row rfl 50 (.tmp 0) (.tmp 16) rfl rb (SV.arr {}) rfl rfl 50 cs hr7 (sv_size _) hcs (sv_one _) ?_
 refine ⟨ht7.setRow (.inl rfl),wpM_tailT ?_⟩
 intro w9 hb9 _
 have hr8 : (w7.setRow rb (SV.arr {})).heap[rb]? = some (.cells (SV.arr {}) 50 (0,0)):=heap_setRow_same hr7
 have hq8 : (w7.setRow rb (SV.arr {})).heap[qb]? = some (.cells #[.int .i64 0,.int .i64 0] 26 (0,0)):=(heap_setRow_other (Ne.symm hne)).trans hq7
 have hr9:=hb9.blk_kept hr8
 have hq9:=hb9.blk_kept hq8
 have HT9:=Lib.hid ((HT7.out.setRow (.inl (.inl rfl)) (cs:=SV.arr {})).step hb9)
 have F9:=cellFacts_of hq9 [.int .i64 0,.int .i64 0] 0 (fun j=>by simp)
 simp only [cellFacts,and_true] at F9
 have HR9:=Lib.hid hr9
 have HQ9:=Lib.hid hq9
 clear y0 y1 HR1 HQ1 HT0 hb7 ht7 hr7 hq7 HT7 hb9 hr8 hq8 hr9 hq9 hs1
 simp only [List.drop_succ_cons,List.drop_zero]
 go_wp2_with fail
 refine ⟨rfl,_,rfl,.tuple #[],by simp [results,Tryz.results53],rfl,rfl,(HT9.out.setCell (.inl (.inr rfl))).setCell (.inl (.inr rfl)),?_,?_⟩
 ·rw [Below.heap_setCell _ _ _ _ (by show rb ≠ qb; exact hne),Below.heap_setCell _ _ _ _ (by show rb ≠ qb; exact hne)]
  exact HR9.out
 ·have:=HQ9.out
  simp [World.setCell,Array.getElem?_modify,this]
end Go.Proofs.YtimoefagohifaaaGreatDoor
