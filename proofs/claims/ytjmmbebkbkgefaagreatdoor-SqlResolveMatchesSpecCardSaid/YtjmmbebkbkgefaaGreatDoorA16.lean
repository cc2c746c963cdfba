/- Part 16; the last part says what is proved. No condition. -/
import Derived.Maps.Own
import Derived.Test.YtjmmbebkbkgefaaGreatDoorA15
namespace Go.Proofs.YtjmmbebkbkgefaaGreatDoor
open Go.RowKit Go.Sort
def intVals (l : List Int) : List Value:=l.map fun n=>.int .i64 n
theorem intVals_lIn {Q : Nat→Prop} {w : World} : ∀ l : List Int,LIn intE Q w l (intVals l)
 | []=>rfl
 | n :: l=>⟨[.int .i64 n],intVals l,rfl,rfl,intVals_lIn l⟩
theorem lIn_intVals {Q : Nat→Prop} {w : World} : ∀ {l : List Int} {acs : List Value},LIn intE Q w l acs→acs = intVals l
 | [],acs,h=>h
 | n :: l,acs,h=>by
  obtain ⟨c1,c2,rfl,h1,h2⟩:=h
  have e : c1 = [.int .i64 n]:=h1
  rw [e,lIn_intVals h2]; rfl
theorem slAt_fresh {W : World} {cs : Array Value} {t : TypeId} {n cap : Nat} (hc : n≤cap) : SlAt (W.alloc (.cells cs t)) (.slice (some ⟨W.heap.size,0,none⟩) n cap) n cs.toList:=by
 refine ⟨_,cap,rfl,hc,fun _=>⟨W.heap.size,0,rfl,fun j u hu=>?_⟩⟩
 simp only [World.cell?,World.alloc_heap_new,Nat.zero_add]
 simpa using hu
def RetInts (w : World) (out : List Int) (e : Ending) (w' : World) : Prop:=∃ v,e = .returned (.tuple #[v,.int .i64 0])∧RSl intE (w.heap.size≤·) w' v out∧Below w.heap.size w w'
theorem retInts_of {w W : World} {v : Value} {out : List Int} (h : W.ownsRow w.heap.size 3 1 v out.length (intVals out)) (hb : Below w.heap.size w W) : RetInts w out (.returned (.tuple #[v,.int .i64 0])) W:=
 ⟨v,rfl,⟨intVals out,h.slIn,intVals_lIn out⟩,hb⟩
theorem below_grows {B : Nat} {w W W' : World} {v : Value} (hb : Below B w W) (hg : W.grownBy W' v.ownBlock) (hv : ∀ g,v.ownBlock = some g→B≤g) (hB : B≤W.heap.size) : Below B w W':=by
 have ht:=Turn.of_grown hg
 exact ⟨ht.os.trans hb.os,ht.tape.trans hb.tape,ht.output.trans hb.output,Nat.le_trans hb.size ht.size,fun k hk=>(ht.block k (by omega) (fun e=>by have:=hv k e; omega)).trans (hb.block k hk)⟩
theorem infoInt : (Tryz.prog.info? 3).map (fun i=>(i.zero,i.size,i.bytes)) = some (some (.int .i64 0),1,8):=by kernel_rfl
def pick (ins ns : List Int) : List Int:=ns.map fun n=>ins.getD n.toNat 0
theorem pick_take {ins ns : List Int} {k : Nat} {n : Int} (h : ns[k]? = some n) : pick ins (ns.take (k + 1)) = pick ins (ns.take k) ++ [ins.getD n.toNat 0]:=by
 obtain ⟨hk,rfl⟩:=List.getElem?_eq_some_iff.1 h
 unfold pick
 rw [List.take_succ_eq_append_getElem hk,List.map_append]; rfl
set_option maxRecDepth 100000 in
set_option maxHeartbeats 4000000 in
theorem projects_cols (Q : Nat→Prop) (ins ns : List Int) (kv ev : Value) (w : World) (hv : RSl intE Q w kv ins) (he : RSl xpE Q w ev (ns.map Xp.col)) (hl : ins.length≤1000000) (hn : 1≤ns.length∧ns.length≤32)
  (hin : ∀ n ∈ ns,0≤n∧n.toNat < ins.length∧0≤ins.getD n.toNat 0∧ins.getD n.toNat 0≤3) : Calls Tryz.prog 105 #[kv,ev] w (RetInts w (pick ins ns)):=by
 have HV:=Lib.hid hv
 have HE:=Lib.hid he
 have HI:=Lib.hid hin
 obtain ⟨ka,kc,rfl⟩:=hv.slice
 obtain ⟨ea,ec,rfl⟩:=he.slice
 rw [List.length_map]
 have h1 : ¬ (ns.length = 0):=by omega
 have h1i : ((ns.length : Int) == 0) = false:=by rw [beq_eq_false_iff_ne]; omega
 have h1n : ns ≠ []:=by rintro rfl; simp at hn
 have h2i : ¬ (32 < (ns.length : Int)):=by omega
 clear hv he hin
 go_enter Tryz.func105,Tryz.ntmps105
 go_wp2_with fail
 go_loopw [6,8,9,10,21] (fun ov _ _ _ i wr=>∃ k : Nat,k≤ns.length∧i = .int .i64 k∧Hid (wr.ownsRow w.heap.size 3 1 ov k (intVals (pick ins (ns.take k))))∧Hid (Below w.heap.size w wr)) (fun _ _ _ _ i _=>ns.length - (intOf i).toNat)
 case atStart=>exact ⟨0,by omega,rfl,World.ownsRow_nil _ _ _ _,Below.refl _ _⟩
 case round=>
  obtain ⟨k,hk,rfl,HO,HB⟩:=hrel
  by_cases hlt : k < ns.length
  ·obtain ⟨n,hx⟩ : ∃ x,ns[k]? = some x:=⟨ns[k],by simp [hlt]⟩
   obtain ⟨b,o,cap,cs,hbo,hc,hat⟩:=(HE.out.kept (by decide) HB.out).at (k:=k) (a:=Xp.col n) (by rw [List.getElem?_map,hx]; rfl)
   rw [List.length_map] at hbo
   injection hbo with e1 _ e2
   subst e1
   subst e2
   obtain ⟨v0,rfl,hs0⟩:=xpIn_iff.1 (show XpIn Q wr (.mk 1 n V.null []) cs from hc)
   obtain ⟨ad,ac,rfl⟩:=hs0.slice
   have x0:=hat 0 _ rfl
   have x1:=hat 1 _ rfl
   have x2:=hat 2 _ rfl
   have x3:=hat 3 _ rfl
   have x4:=hat 4 _ rfl
   have x5:=hat 5 _ rfl
   simp only [show xpE.k = 6 from rfl,Nat.add_zero,List.length_nil] at x0 x1 x2 x3 x4 x5
   have hst:=pick_take (ins:=ins) hx
   have hf:=HI.out n (List.mem_of_getElem? hx)
   have HST:=Lib.hid hst
   have CK : Hid (∀ W,Below w.heap.size w W→Calls Tryz.prog 174 #[.slice ka ins.length kc,.agg #[.int .i64 1,.int .i64 n,.int .i64 V.null.k,.int .i64 V.null.n,.string V.null.s,.slice ad 0 ac]] W (Says (.tuple #[.int .i64 (ins.getD n.toNat 0),.int .i64 0]) W)):=
    fun W hW=>check_col Q ins _ n ad ac _ W (HV.out.kept (by decide) hW) hf.1 (by rw [List.getD_eq_getElem?_getD,List.getElem?_eq_getElem hf.2.1]; rfl) hf.2.2 hl
   generalize ins.getD n.toNat 0 = kd at *
   have HB1:=Lib.hid (HB.out.alloc HB.out.size (.cells #[.int .i64 1,.int .i64 n,.int .i64 V.null.k,.int .i64 V.null.n,.string V.null.s,.slice ad 0 ac] 49))
   have HO1:=Lib.hid (HO.out.later ((Below.refl _ _).alloc (Nat.le_refl _) (.cells #[.int .i64 1,.int .i64 n,.int .i64 V.null.k,.int .i64 V.null.n,.string V.null.s,.slice ad 0 ac] 49)))
   clear hat hc hs0 hst hf
   go_wp2_with fail
   refine Calls.mono (CK.out _ HB1.out) ?_
   rintro e w1 ⟨rfl,hb1⟩
   have HB2:=Lib.hid (HB1.out.step hb1)
   have HO2:=Lib.hid (HO1.out.later hb1)
   have hs2:=HB2.out.size
   clear hb1 x0 x1 x2 x3 x4 x5 HB HB1 HO HO1 CK
   go_wp2_with (refine wpList_append_at rfl (.tmp 34) (.tmp 36) 55 rfl 3 (.int .i64 0) 1 8 Tryz.underlying55 infoInt rfl (by decide) w.heap.size _ k (intVals (pick ins (ns.take k))) rfl (HO2.out.later ((Below.refl _ _).alloc (Nat.le_refl _) _)) _ 1 [.int .i64 kd] rfl (by decide) (slAt_fresh (by decide)) rfl (by simp [Value.oneCell']) (by omega) (by unfold maxLen; omega) (by simp; omega) ?_; intro v' w3 hown hgr hblk hsl; obtain ⟨g,cp,rfl⟩:=hsl)
   have HB3 : Hid (Below w.heap.size w w3):=below_grows (HB2.out.alloc hs2 _) hgr (fun g hg=>(World.ownsRow.lt HO2.out g hg).1) (by simp; omega)
   have HO3 : Hid (w3.ownsRow w.heap.size 3 1 (.slice (some ⟨g,0,none⟩) (k + 1) cp) (k + 1) (intVals (pick ins (ns.take (k + 1))))):=by
    rw [HST.out]
    unfold intVals at hown ⊢
    rw [List.map_append]
    exact hown
   clear hown hgr hblk HB2 HO2
   go_wp2_with fail
   go_roundw
   case rel=>exact ⟨k + 1,by omega,by go_num,HO3.out,HB3.out⟩
   case measure=>simp [intOf]; omega
  ·obtain rfl : k = ns.length:=by omega
   go_wp2_with fail
   go_returns
   have:=HO.out
   rw [List.take_length] at this
   exact retInts_of (by rw [show (pick ins ns).length = ns.length by simp [pick]]; exact this) HB.out
end Go.Proofs.YtjmmbebkbkgefaaGreatDoor
namespace Go
open Go.Sort Go.RowKit
theorem nodup_set {l : List Nat} {i a : Nat} (hn : l.Nodup) (ha : ∀ j,j ≠ i→l[j]? ≠ some a) : (l.set i a).Nodup:=by
 refine List.pairwise_iff_getElem.2 fun j k hj hk hjk e=>?_
 simp only [List.length_set] at hj hk
 rw [List.getElem_set,List.getElem_set] at e
 have hp:=List.pairwise_iff_getElem.1 hn j k hj hk hjk
 by_cases h1 : i = j
 ·subst h1
  have h2 : i ≠ k:=by omega
  rw [if_pos rfl,if_neg h2] at e
  exact ha k (Ne.symm h2) (by rw [List.getElem?_eq_getElem hk,e])
 ·rw [if_neg h1] at e
  by_cases h2 : i = k
  ·subst h2
   rw [if_pos rfl] at e
   exact ha j (Ne.symm h1) (by rw [List.getElem?_eq_getElem hj,e])
  ·rw [if_neg h2] at e
   exact hp e
theorem St.grewNil {w0 w w' : World} {L : List Blk} {g : Nat} {cur : Array Value} {e : TypeId} (h : St w0 w L) (hg : w.grownBy w' none) (hge : w.heap.size≤g) (hb : w'.heap[g]? = some (.cells cur e (0,0))) : St w0 w' ((g,cur,e) :: L):=by
 have hk:=h.kept ((Turn.of_grown hg).mono (N:=fun _=>False) (fun i _ hi=>by cases hi)).below
 refine ⟨hk.below,fun x hx=>?_,?_⟩
 ·rcases List.mem_cons.1 hx with rfl | hx
  ·exact ⟨Nat.le_trans h.below.size hge,hb⟩
  ·exact hk.own x hx
 ·simp only [List.map_cons,List.nodup_cons]
  refine ⟨fun hm=>?_,h.apart⟩
  obtain ⟨x,hx,e⟩:=List.mem_map.1 hm
  have:=(Array.getElem?_eq_some_iff.1 (h.own x hx).2).1
  omega
theorem St.grewAt {w0 w w' : World} {L : List Blk} {i g g' : Nat} {cs cur : Array Value} {t : TypeId} (h : St w0 w L) (hi : L[i]? = some (g,cs,t)) (hg : w.grownBy w' (some g)) (hge : g' = g∨w.heap.size≤g') (hb : w'.heap[g']? = some (.cells cur t (0,0))) : St w0 w' (L.set i (g',cur,t)):=by
 have hgo:=h.own _ (List.mem_of_getElem? hi)
 have ht:=Turn.of_grown hg
 have hsz:=h.below.size
 refine ⟨⟨ht.os.trans h.below.os,ht.tape.trans h.below.tape,ht.output.trans h.below.output,Nat.le_trans hsz ht.size,fun k hk=>?_⟩,fun x hx=>?_,?_⟩
 ·refine (ht.block k (by omega) (fun e=>?_)).trans (h.below.block k hk)
  have e' : g = k:=by simpa using e
  have:=hgo.1
  simp only at this
  omega
 ·obtain ⟨j,hj⟩:=List.mem_iff_getElem?.1 hx
  rw [List.getElem?_set] at hj
  split at hj
  ·split at hj
   ·cases hj
    refine ⟨?_,hb⟩
    rcases hge with rfl | hge
    ·exact hgo.1
    ·exact Nat.le_trans hsz hge
   ·cases hj
  ·rename_i hne
   have hox:=h.own x (List.mem_of_getElem? hj)
   have hlt:=(Array.getElem?_eq_some_iff.1 hox.2).1
   have hap:=nodup_idx h.apart hi hj hne
   refine ⟨hox.1,?_⟩
   rw [ht.block x.1 hlt (fun e=>hap (by simpa using e))]
   exact hox.2
 ·rw [List.map_set]
  refine nodup_set h.apart (fun j hne e=>?_)
  rw [List.getElem?_map] at e
  obtain ⟨x,hj,e⟩:=Option.map_eq_some_iff.1 e
  have hox:=h.own x (List.mem_of_getElem? hj)
  have hlt:=(Array.getElem?_eq_some_iff.1 hox.2).1
  have hap:=nodup_idx h.apart hi hj (Ne.symm hne)
  rcases hge with rfl | hge
  ·exact hap e.symm
  ·omega
theorem row_cur {cur : Array Value} {k : Nat} {xs : List Value} (h : cur.toList.take k = xs) : cur = (xs ++ cur.toList.drop k).toArray:=by
 rw [← h,List.take_append_drop]
theorem wpList_append_nil {P : Program} {ops : Array Oper} {rest : List Oper} {o : Oper} {a : Act} {Q : Exit→Act→World→Prop} {W : World} (hgd : o.guard = none) (s x : Operand) (t : TypeId)
  (ho : o.op = .call { callee:=.builtin .append,args:=#[s,x],argTypes:=#[t,t] })
  (e : TypeId) (z : Value) (size bytes : Nat) (ht : P.underlying t = some (.slice e)) (hinfo : (P.info? e).map (fun i=>(i.zero,i.size,i.bytes)) = some (some z,size,bytes)) (hzs : z.cells.size = size) (hsz : 0 < size)
  {w0 : World} {L : List Blk} (S : St w0 W L) (hs : a.eval s = .slice none 0 0)
  (xv : Value) (m : Nat) (news : List Value) (hx : a.eval x = xv) (hm : 0 < m) (hsl : SlAt W xv m news) (hl : news.length = m * size) (h1 : ∀ u ∈ news,u.oneCell' = true)
  (hbytes : m * bytes≤140737488355328) (h63 : m≤maxLen)
  (h : ∀ g cap zs w',Hid (St w0 w' ((g,(news ++ zs).toArray,e) :: L))→m≤cap→cap≤maxLen→(news ++ zs).length = cap * size→wpList P ops Q rest (a.put o.dst (.slice (some ⟨g,0,none⟩) m cap)) w') : wpList P ops Q (o :: rest) a W:=by
 refine wpList_append_at hgd s x t ho e z size bytes ht hinfo hzs hsz W.heap.size (.slice none 0 0) 0 [] hs (World.ownsRow_nil _ _ _ _) xv m news hx hm hsl hl h1 (by simpa using hbytes) (by simpa using h63) (Nat.le_refl _) ?_
 intro v' w' hown hgr hblk hsl'
 obtain ⟨hl',⟨rfl,h0⟩ | ⟨g,cap,cur,rfl,hb,hbk,k1,k2,k3,k4⟩⟩:=hown
 ·omega
 ·rw [Nat.zero_add,List.nil_append] at k4
  have hc:=row_cur k4
  have S':=S.grewNil hgr hb hbk
  have hlen : cur.toList.length = cap * size:=by simpa using k3
  have:=h g cap (cur.toList.drop (m * size)) w' (by rw [← hc]; exact S') (by omega) k2 (by rw [← k4,List.take_append_drop]; exact hlen)
  rw [Nat.zero_add]
  exact this
theorem wpList_append_on {P : Program} {ops : Array Oper} {rest : List Oper} {o : Oper} {a : Act} {Q : Exit→Act→World→Prop} {W : World} (hgd : o.guard = none) (s x : Operand) (t : TypeId)
  (ho : o.op = .call { callee:=.builtin .append,args:=#[s,x],argTypes:=#[t,t] })
  (e : TypeId) (z : Value) (size bytes : Nat) (ht : P.underlying t = some (.slice e)) (hinfo : (P.info? e).map (fun i=>(i.zero,i.size,i.bytes)) = some (some z,size,bytes)) (hzs : z.cells.size = size) (hsz : 0 < size)
  {w0 : World} {L : List Blk} (i : Nat) {g n cap : Nat} {xs zs : List Value} (S : St w0 W L) (hi : L[i]? = some (g,(xs ++ zs).toArray,e)) (hs : a.eval s = .slice (some ⟨g,0,none⟩) n cap)
  (hxl : xs.length = n * size) (hnc : n≤cap) (hcm : cap≤maxLen) (hzl : (xs ++ zs).length = cap * size)
  (xv : Value) (m : Nat) (news : List Value) (hx : a.eval x = xv) (hm : 0 < m) (hsl : SlAt W xv m news) (hl : news.length = m * size) (h1 : ∀ u ∈ news,u.oneCell' = true)
  (hbytes : (n + m) * bytes≤140737488355328) (h63 : n + m≤maxLen)
  (h : ∀ g' cap' zs' w',Hid (St w0 w' (L.set i (g',(xs ++ news ++ zs').toArray,e)))→n + m≤cap'→cap'≤maxLen→(xs ++ news ++ zs').length = cap' * size→wpList P ops Q rest (a.put o.dst (.slice (some ⟨g',0,none⟩) (n + m) cap')) w') : wpList P ops Q (o :: rest) a W:=by
 have hgo:=S.own _ (List.mem_of_getElem? hi)
 have hown : W.ownsRow w0.heap.size e size (.slice (some ⟨g,0,none⟩) n cap) n xs:=by
  refine ⟨hxl,.inr ⟨g,cap,(xs ++ zs).toArray,rfl,hgo.1,hgo.2,hnc,hcm,by simpa using hzl,?_⟩⟩
  rw [← hxl]
  simp
 refine wpList_append_at hgd s x t ho e z size bytes ht hinfo hzs hsz w0.heap.size _ n xs hs hown xv m news hx hm hsl hl h1 hbytes h63 S.below.size ?_
 intro v' w' hown' hgr hblk hsl'
 obtain ⟨hl',⟨rfl,h0⟩ | ⟨g',cap',cur,rfl,hb,hbk,k1,k2,k3,k4⟩⟩:=hown'
 ·omega
 ·have hc:=row_cur k4
  have S':=S.grewAt hi hgr (g':=g') (by simpa [Value.ownBlock] using hblk) hbk
  have hlen : cur.toList.length = cap' * size:=by simpa using k3
  have:=h g' cap' (cur.toList.drop ((n + m) * size)) w' (by rw [← hc]; exact S') (by omega) k2 (by rw [← k4,List.take_append_drop]; exact hlen)
  exact this
end Go
namespace Go.Proofs.YtjmmbebkbkgefaaGreatDoor
open Go.RowKit Go.Sort
def exTbl : Tbl:=⟨[116],[⟨[97],1,false⟩,⟨[98],1,false⟩],[],[]⟩
structure TblAt (w : World) (tb tq : Nat) (cb co cc : Nat) (ia : Option Addr) (ic : Nat) (ka : Option Addr) (kc : Nat) : Prop where
 t0 : w.cell? ⟨tb,tq,none⟩ = some (.string ⟨[116].toArray⟩)
 t1 : w.cell? ⟨tb,tq + 1,none⟩ = some (.slice (some ⟨cb,co,none⟩) 2 cc)
 t2 : w.cell? ⟨tb,tq + 2,none⟩ = some (.slice ia 0 ic)
 t3 : w.cell? ⟨tb,tq + 3,none⟩ = some (.slice ka 0 kc)
 a0 : w.cell? ⟨cb,co,none⟩ = some (.string ⟨[97].toArray⟩)
 a1 : w.cell? ⟨cb,co + 1,none⟩ = some (.int .i64 1)
 a2 : w.cell? ⟨cb,co + 2,none⟩ = some (.bool false)
 b0 : w.cell? ⟨cb,co + 3,none⟩ = some (.string ⟨[98].toArray⟩)
 b1 : w.cell? ⟨cb,co + 3 + 1,none⟩ = some (.int .i64 1)
 b2 : w.cell? ⟨cb,co + 3 + 2,none⟩ = some (.bool false)
theorem TblAt.kept {w w' : World} {tb tq cb co cc : Nat} {ia : Option Addr} {ic : Nat} {ka : Option Addr} {kc : Nat} (h : TblAt w tb tq cb co cc ia ic ka kc) (hb : Below w.heap.size w w') : TblAt w' tb tq cb co cc ia ic ka kc:=
 ⟨hb.cell_kept h.t0,hb.cell_kept h.t1,hb.cell_kept h.t2,hb.cell_kept h.t3,hb.cell_kept h.a0,hb.cell_kept h.a1,hb.cell_kept h.a2,hb.cell_kept h.b0,hb.cell_kept h.b1,hb.cell_kept h.b2⟩
theorem tblAt_of {Q : Nat→Prop} {w : World} {v : Value} (h : RSl tblE Q w v [exTbl]) : ∃ tb tq tc cb co cc ia ic ka kc,v = .slice (some ⟨tb,tq,none⟩) 1 tc∧TblAt w tb tq cb co cc ia ic ka kc:=by
 obtain ⟨tb,tq,tc,tcs,rfl,ht,hat⟩:=h.at (k:=0) rfl
 obtain ⟨ca,cc,ia,ic,ka,kc,rfl,hc⟩:=ht
 obtain ⟨cb,co,cc',ccs,hcb,hci,hcat⟩:=hc.at (k:=0) rfl
 injection hcb with e1 e3 e2
 subst e1 e2
 clear e3
 have e : ccs = [.string ⟨[97].toArray⟩,.int .i64 1,.bool false]:=hci
 subst e
 obtain ⟨cb',co',cc',ccs,hcb,hci,hcat'⟩:=hc.at (k:=1) rfl
 injection hcb with e1 e4 e2
 clear e4
 injection e1 with e1
 injection e1 with e1 e3
 subst e1 e2 e3
 have e : ccs = [.string ⟨[98].toArray⟩,.int .i64 1,.bool false]:=hci
 subst e
 have t0:=hat 0 _ rfl
 have t1:=hat 1 _ rfl
 have t2:=hat 2 _ rfl
 have t3:=hat 3 _ rfl
 have a0:=hcat 0 _ rfl
 have a1:=hcat 1 _ rfl
 have a2:=hcat 2 _ rfl
 have b0:=hcat' 0 _ rfl
 have b1:=hcat' 1 _ rfl
 have b2:=hcat' 2 _ rfl
 simp only [Nat.zero_mul,Nat.add_zero,Nat.one_mul,show colE.k = 3 from rfl] at t0 t1 t2 t3 a0 a1 a2 b0 b1 b2
 exact ⟨tb,tq,tc,cb,co,cc,ia,ic,ka,kc,rfl,⟨t0,t1,t2,t3,a0,a1,a2,b0,b1,b2⟩⟩
theorem bodyGen {P : Program} {fn : Func} {R : Ending→World→Prop} {x : Exit} {a : Act} {w : World} (R2 : World→Prop) (h : R2 w) (k : ∀ W,R2 W→bodyPost P fn R x a W) : bodyPost P fn R x a w:=k w h
set_option maxRecDepth 100000 in
set_option maxHeartbeats 8000000 in
theorem resolve_a (Q : Nat→Prop) (tv : Value) (na : Option Addr) (nc : Nat) (w : World) (ht : RSl tblE Q w tv [exTbl]) :
  Calls Tryz.prog 9 #[tv,.agg #[.int .i64 1,.string ⟨#[]⟩,.string ⟨[97].toArray⟩,.int .i64 0,.int .i64 0,.string ⟨#[]⟩,.slice na 0 nc]] w (Says (.tuple #[.agg #[.int .i64 1,.int .i64 0,.int .i64 0,.int .i64 0,.string ⟨#[]⟩,.slice none 0 0],.int .i64 0]) w):=by
 obtain ⟨tb,tq,tc,cb,co,cc,ia,ic,ka,kc,rfl,H⟩:=tblAt_of ht
 have HT:=Lib.hid H
 clear ht H
 go_enter Tryz.func9,Tryz.ntmps9
 go_upto_region 4 with fail
 refine St.gen (St.alloc (St.alloc (St.start _))) ?_
 intro w1 S1
 try (simp only [World.size_alloc] at S1)
 have F1:=S1.out.facts
 simp only [St.Facts,cellFacts,apartFacts,and_true] at F1
 obtain ⟨t0,t1,t2,t3,a0,a1,a2,b0,b1,b2⟩:=HT.out.kept S1.out.below
 go_upto_region 5 with fail
 refine wp_loop_rounds 2 ?_
 rw [rounds_succ]
 go_upto_region 8 with fail
 clear F1 t0 t1 t2 t3 a0 a1 a2 b0 b1 b2
 refine St.gen (St.alloc (S1.out)) ?_
 intro w2 S2
 try (simp only [List.set_cons_zero,List.set_cons_succ,List.setIfInBounds_toArray,World.size_alloc] at S2)
 clear S1
 have F2:=S2.out.facts
 simp only [St.Facts,cellFacts,apartFacts,and_true] at F2
 obtain ⟨t0,t1,t2,t3,a0,a1,a2,b0,b1,b2⟩:=HT.out.kept S2.out.below
 refine wp_loop_rounds 3 ?_
 rw [rounds_succ]
 go_upto_region 11 with fail
 clear F2 t0 t1 t2 t3 a0 a1 a2 b0 b1 b2
 refine St.gen (St.laid (S2.out)) ?_
 intro w3 S3
 try (simp only [List.set_cons_zero,List.set_cons_succ,List.setIfInBounds_toArray,World.size_alloc] at S3)
 clear S2
 have F3:=S3.out.facts
 simp only [St.Facts,cellFacts,apartFacts,and_true] at F3
 go_wp2_with (refine wpList_append_nil rfl (.tmp 50) (.tmp 52) 55 rfl 3 (.int .i64 0) 1 8 Tryz.underlying55 infoInt rfl (by decide) (St.laid S3.out) rfl _ 1 [.int .i64 0] rfl (by decide) (slAt_fresh (by decide)) rfl (by simp [Value.oneCell']) (by decide) (by unfold maxLen; decide) ?_; intro g cap zs w4 S4 hc1 hc2 hc3; simp only [List.cons_append,List.nil_append] at S4)
 clear F3 S3
 obtain ⟨t0,t1,t2,t3,a0,a1,a2,b0,b1,b2⟩:=HT.out.kept S4.out.below
 have hx : w4.heap[w.heap.size]? = some (.cells #[.int .i64 1,.string ⟨#[]⟩,.string ⟨[97].toArray⟩,.int .i64 0,.int .i64 0,.string ⟨#[]⟩,.slice na 0 nc] 27 (0,0)):=S4.out.blk 3 rfl
 have x2 : w4.cell? ⟨w.heap.size,2,none⟩ = some (.string ⟨[97].toArray⟩):=by simp only [World.cell?,hx]; rfl
 have x9:=block_lt_of_cell x2
 clear hx
 rw [rounds_succ]
 go_upto_region 12 with fail
 clear t0 t1 t2 t3 a0 a1 a2 b0 b1 b2 x2 x9
 refine St.gen (St.laid (S4.out)) ?_
 intro w5 S5
 try (simp only [List.set_cons_zero,List.set_cons_succ,List.setIfInBounds_toArray,World.size_alloc] at S5)
 clear S4
 have y0 : w5.cell? ⟨g,0,none⟩ = some (.int .i64 0):=by simp only [World.cell?,S5.out.blk 0 rfl]; rfl
 have y1:=block_lt_of_cell y0
 have hbo : w5.heap[w.heap.size + 1]? = some (.cells #[.int .i64 0,.int .i64 0,.int .i64 0,.int .i64 0,.string ⟨#[]⟩,.slice none 0 0] 49 (0,0)):=S5.out.blk 2 rfl
 have z0 : w5.cell? ⟨w.heap.size + 1,0,none⟩ = some (.int .i64 0):=by simp only [World.cell?,hbo]; rfl
 have f0 : w5.frozen? ⟨w.heap.size + 1,0,none⟩ = false:=by simp [World.frozen?,hbo]
 have z1 : w5.cell? ⟨w.heap.size + 1,1,none⟩ = some (.int .i64 0):=by simp only [World.cell?,hbo]; rfl
 have f1 : w5.frozen? ⟨w.heap.size + 1,1,none⟩ = false:=by simp [World.frozen?,hbo]
 have z2 : w5.cell? ⟨w.heap.size + 1,2,none⟩ = some (.int .i64 0):=by simp only [World.cell?,hbo]; rfl
 have f2 : w5.frozen? ⟨w.heap.size + 1,2,none⟩ = false:=by simp [World.frozen?,hbo]
 have z3 : w5.cell? ⟨w.heap.size + 1,3,none⟩ = some (.int .i64 0):=by simp only [World.cell?,hbo]; rfl
 have f3 : w5.frozen? ⟨w.heap.size + 1,3,none⟩ = false:=by simp [World.frozen?,hbo]
 have z4 : w5.cell? ⟨w.heap.size + 1,4,none⟩ = some (.string ⟨#[]⟩):=by simp only [World.cell?,hbo]; rfl
 have f4 : w5.frozen? ⟨w.heap.size + 1,4,none⟩ = false:=by simp [World.frozen?,hbo]
 have z5 : w5.cell? ⟨w.heap.size + 1,5,none⟩ = some (.slice none 0 0):=by simp only [World.cell?,hbo]; rfl
 have f5 : w5.frozen? ⟨w.heap.size + 1,5,none⟩ = false:=by simp [World.frozen?,hbo]
 have z9:=block_lt_of_cell z0
 clear hbo
 go_upto_region 8 with fail
 rw [rounds_succ]
 go_upto_region 5 with fail
 rw [rounds_succ]
 go_upto_region 19 with fail
 go_wp2_with fail
 refine bodyGen (fun W=>St w W _) (St.setsL (i:=2) [.int .i64 1,.int .i64 0,.int .i64 0,.int .i64 0,.string ⟨#[]⟩,.slice none 0 0] 0 _ _ _ S5.out rfl) ?_
 intro w9 S9'
 have S9:=Lib.hid S9'
 clear S9'
 simp only [List.set_cons_zero,List.set_cons_succ] at S9
 have F9 : w9.heap[w.heap.size + 1]? = some (.cells #[.int .i64 1,.int .i64 0,.int .i64 0,.int .i64 0,.string ⟨#[]⟩,.slice none 0 0] 49 (0,0)):=S9.out.blk 2 rfl
 have c0 : w9.cell? ⟨w.heap.size + 1,0,none⟩ = some (.int .i64 1):=by simp only [World.cell?,F9]; rfl
 have c1 : w9.cell? ⟨w.heap.size + 1,1,none⟩ = some (.int .i64 0):=by simp only [World.cell?,F9]; rfl
 have c2 : w9.cell? ⟨w.heap.size + 1,2,none⟩ = some (.int .i64 0):=by simp only [World.cell?,F9]; rfl
 have c3 : w9.cell? ⟨w.heap.size + 1,3,none⟩ = some (.int .i64 0):=by simp only [World.cell?,F9]; rfl
 have c4 : w9.cell? ⟨w.heap.size + 1,4,none⟩ = some (.string ⟨#[]⟩):=by simp only [World.cell?,F9]; rfl
 have c5 : w9.cell? ⟨w.heap.size + 1,5,none⟩ = some (.slice none 0 0):=by simp only [World.cell?,F9]; rfl
 refine bodyPost_ret (v:=.tuple #[.agg #[.int .i64 1,.int .i64 0,.int .i64 0,.int .i64 0,.string ⟨#[]⟩,.slice none 0 0],.int .i64 0]) (by simp [results,Tryz.results9,go_sem,c0,c1,c2,c3,c4,c5]) rfl ?_
 exact ⟨rfl,S9.out.below⟩
set_option maxRecDepth 100000 in
set_option maxHeartbeats 8000000 in
theorem resolve_b (Q : Nat→Prop) (tv : Value) (na : Option Addr) (nc : Nat) (w : World) (ht : RSl tblE Q w tv [exTbl]) :
  Calls Tryz.prog 9 #[tv,.agg #[.int .i64 1,.string ⟨#[]⟩,.string ⟨[98].toArray⟩,.int .i64 0,.int .i64 0,.string ⟨#[]⟩,.slice na 0 nc]] w (Says (.tuple #[.agg #[.int .i64 1,.int .i64 1,.int .i64 0,.int .i64 0,.string ⟨#[]⟩,.slice none 0 0],.int .i64 0]) w):=by
 obtain ⟨tb,tq,tc,cb,co,cc,ia,ic,ka,kc,rfl,H⟩:=tblAt_of ht
 have HT:=Lib.hid H
 clear ht H
 go_enter Tryz.func9,Tryz.ntmps9
 go_upto_region 4 with fail
 refine St.gen (St.alloc (St.alloc (St.start _))) ?_
 intro w1 S1
 try (simp only [World.size_alloc] at S1)
 have F1:=S1.out.facts
 simp only [St.Facts,cellFacts,apartFacts,and_true] at F1
 obtain ⟨t0,t1,t2,t3,a0,a1,a2,b0,b1,b2⟩:=HT.out.kept S1.out.below
 go_upto_region 5 with fail
 refine wp_loop_rounds 2 ?_
 rw [rounds_succ]
 go_upto_region 8 with fail
 clear F1 t0 t1 t2 t3 a0 a1 a2 b0 b1 b2
 refine St.gen (St.alloc (S1.out)) ?_
 intro w2 S2
 try (simp only [List.set_cons_zero,List.set_cons_succ,List.setIfInBounds_toArray,World.size_alloc] at S2)
 clear S1
 have F2:=S2.out.facts
 simp only [St.Facts,cellFacts,apartFacts,and_true] at F2
 obtain ⟨t0,t1,t2,t3,a0,a1,a2,b0,b1,b2⟩:=HT.out.kept S2.out.below
 refine wp_loop_rounds 3 ?_
 rw [rounds_succ]
 go_upto_region 12 with fail
 clear F2 t0 t1 t2 t3 a0 a1 a2 b0 b1 b2
 refine St.gen (St.laid (S2.out)) ?_
 intro w3 S3
 try (simp only [List.set_cons_zero,List.set_cons_succ,List.setIfInBounds_toArray,World.size_alloc] at S3)
 clear S2
 have F3:=S3.out.facts
 simp only [St.Facts,cellFacts,apartFacts,and_true] at F3
 obtain ⟨t0,t1,t2,t3,a0,a1,a2,b0,b1,b2⟩:=HT.out.kept S3.out.below
 go_upto_region 8 with fail
 rw [rounds_succ]
 go_upto_region 11 with fail
 clear F3 t0 t1 t2 t3 a0 a1 a2 b0 b1 b2
 refine St.gen (St.laid (S3.out)) ?_
 intro w4 S4
 try (simp only [List.set_cons_zero,List.set_cons_succ,List.setIfInBounds_toArray,World.size_alloc] at S4)
 clear S3
 have F4:=S4.out.facts
 simp only [St.Facts,cellFacts,apartFacts,and_true] at F4
 go_wp2_with (refine wpList_append_nil rfl (.tmp 50) (.tmp 52) 55 rfl 3 (.int .i64 0) 1 8 Tryz.underlying55 infoInt rfl (by decide) (St.laid S4.out) rfl _ 1 [.int .i64 1] rfl (by decide) (slAt_fresh (by decide)) rfl (by simp [Value.oneCell']) (by decide) (by unfold maxLen; decide) ?_; intro g cap zs w5 S5 hc1 hc2 hc3; simp only [List.cons_append,List.nil_append] at S5)
 clear F4 S4
 have y0 : w5.cell? ⟨g,0,none⟩ = some (.int .i64 1):=by simp only [World.cell?,S5.out.blk 0 rfl]; rfl
 have y1:=block_lt_of_cell y0
 have hbo : w5.heap[w.heap.size + 1]? = some (.cells #[.int .i64 0,.int .i64 0,.int .i64 0,.int .i64 0,.string ⟨#[]⟩,.slice none 0 0] 49 (0,0)):=S5.out.blk 2 rfl
 have z0 : w5.cell? ⟨w.heap.size + 1,0,none⟩ = some (.int .i64 0):=by simp only [World.cell?,hbo]; rfl
 have f0 : w5.frozen? ⟨w.heap.size + 1,0,none⟩ = false:=by simp [World.frozen?,hbo]
 have z1 : w5.cell? ⟨w.heap.size + 1,1,none⟩ = some (.int .i64 0):=by simp only [World.cell?,hbo]; rfl
 have f1 : w5.frozen? ⟨w.heap.size + 1,1,none⟩ = false:=by simp [World.frozen?,hbo]
 have z2 : w5.cell? ⟨w.heap.size + 1,2,none⟩ = some (.int .i64 0):=by simp only [World.cell?,hbo]; rfl
 have f2 : w5.frozen? ⟨w.heap.size + 1,2,none⟩ = false:=by simp [World.frozen?,hbo]
 have z3 : w5.cell? ⟨w.heap.size + 1,3,none⟩ = some (.int .i64 0):=by simp only [World.cell?,hbo]; rfl
 have f3 : w5.frozen? ⟨w.heap.size + 1,3,none⟩ = false:=by simp [World.frozen?,hbo]
 have z4 : w5.cell? ⟨w.heap.size + 1,4,none⟩ = some (.string ⟨#[]⟩):=by simp only [World.cell?,hbo]; rfl
 have f4 : w5.frozen? ⟨w.heap.size + 1,4,none⟩ = false:=by simp [World.frozen?,hbo]
 have z5 : w5.cell? ⟨w.heap.size + 1,5,none⟩ = some (.slice none 0 0):=by simp only [World.cell?,hbo]; rfl
 have f5 : w5.frozen? ⟨w.heap.size + 1,5,none⟩ = false:=by simp [World.frozen?,hbo]
 have z9:=block_lt_of_cell z0
 clear hbo
 rw [rounds_succ]
 go_upto_region 5 with fail
 rw [rounds_succ]
 go_upto_region 19 with fail
 go_wp2_with fail
 refine bodyGen (fun W=>St w W _) (St.setsL (i:=2) [.int .i64 1,.int .i64 1,.int .i64 0,.int .i64 0,.string ⟨#[]⟩,.slice none 0 0] 0 _ _ _ S5.out rfl) ?_
 intro w9 S9'
 have S9:=Lib.hid S9'
 clear S9'
 simp only [List.set_cons_zero,List.set_cons_succ] at S9
 have F9 : w9.heap[w.heap.size + 1]? = some (.cells #[.int .i64 1,.int .i64 1,.int .i64 0,.int .i64 0,.string ⟨#[]⟩,.slice none 0 0] 49 (0,0)):=S9.out.blk 2 rfl
 have c0 : w9.cell? ⟨w.heap.size + 1,0,none⟩ = some (.int .i64 1):=by simp only [World.cell?,F9]; rfl
 have c1 : w9.cell? ⟨w.heap.size + 1,1,none⟩ = some (.int .i64 1):=by simp only [World.cell?,F9]; rfl
 have c2 : w9.cell? ⟨w.heap.size + 1,2,none⟩ = some (.int .i64 0):=by simp only [World.cell?,F9]; rfl
 have c3 : w9.cell? ⟨w.heap.size + 1,3,none⟩ = some (.int .i64 0):=by simp only [World.cell?,F9]; rfl
 have c4 : w9.cell? ⟨w.heap.size + 1,4,none⟩ = some (.string ⟨#[]⟩):=by simp only [World.cell?,F9]; rfl
 have c5 : w9.cell? ⟨w.heap.size + 1,5,none⟩ = some (.slice none 0 0):=by simp only [World.cell?,F9]; rfl
 refine bodyPost_ret (v:=.tuple #[.agg #[.int .i64 1,.int .i64 1,.int .i64 0,.int .i64 0,.string ⟨#[]⟩,.slice none 0 0],.int .i64 0]) (by simp [results,Tryz.results9,go_sem,c0,c1,c2,c3,c4,c5]) rfl ?_
 exact ⟨rfl,S9.out.below⟩
theorem rSl_ints {w0 W : World} {L : List Blk} {i g cap : Nat} {zs : List Value} (S : St w0 W L) (hi : L[i]? = some (g,(.int .i64 1 :: .int .i64 1 :: zs).toArray,3)) (hc : 2≤cap) :
  RSl intE (w0.heap.size≤·) W (.slice (some ⟨g,0,none⟩) 2 cap) [1,1]:=by
 have hb:=S.own _ (List.mem_of_getElem? hi)
 refine ⟨intVals [1,1],⟨_,_,rfl,hc,fun _=>⟨g,0,rfl,hb.1,fun j u hu=>?_⟩⟩,intVals_lIn _⟩
 have h2 : j < 2:=by
  have:=(List.getElem?_eq_some_iff.1 hu).1
  simpa [intVals] using this
 have e : u = .int .i64 1:=by
  match j,h2 with
  | 0,_=>simpa [intVals] using hu.symm
  | 1,_=>simpa [intVals] using hu.symm
 subst e
 simp only [World.cell?,hb.2]
 match j,h2 with
 | 0,_=>rfl
 | 1,_=>rfl
theorem look0 {W : World} {mb : Nat} (h : W.heap[mb]? = some (.map #[] 0)) : (Instr.lookup 230 (.map (some mb)) (.int .i64 0) false).run Tryz.prog W = .ok (.bool false) W:=by
 have hf:=MapKept.run_findKey (P:=Tryz.prog) (w:=W) (k:=.int .i64 0) (l:=[]) (a:=none) Tryz.underlying3 rfl
 have hc:=(Maps.int_keyed Tryz.underlying3).check W true (Maps.keyOf_int_mk Tryz.underlying3 (show (Lit.int .i64 0).wf = true by kernel_rfl))
 simp [Instr.lookup,run_underlying Tryz.underlying230,MapKept.run_getObj_map h,hc,hf,Tryz.zeroValue4,Result.andThen]
theorem upd0 {W : World} {mb : Nat} (h : W.heap[mb]? = some (.map #[] 0)) : (Instr.mapUpdate 230 (.map (some mb)) (.int .i64 0) (.bool true)).run Tryz.prog W = .ok () (W.putObj mb (.map #[{ key:=.int .i64 0,val:=.bool true,born:=0 }] 1)):=by
 have hf:=MapKept.run_findKey (P:=Tryz.prog) (w:=W) (k:=.int .i64 0) (l:=[]) (a:=none) Tryz.underlying3 rfl
 have hc:=(Maps.int_keyed Tryz.underlying3).check W false (Maps.keyOf_int_mk Tryz.underlying3 (show (Lit.int .i64 0).wf = true by kernel_rfl))
 simp [Instr.mapUpdate,run_underlying Tryz.underlying230,MapKept.run_getObj_map h,hc,hf,MapKept.run_setObj_map _ h,Result.andThen]
 rfl
theorem St.put {w0 w : World} {L : List Blk} {mb : Nat} {o : Obj} (h : St w0 w L) (hm : w0.heap.size≤mb) (ha : ∀ x ∈ L,x.1 ≠ mb) : St w0 (w.putObj mb o) L:=by
 have hk : ∀ k,k ≠ mb→(w.putObj mb o).heap[k]? = w.heap[k]?:=fun k hk=>by
  show (w.heap.setIfInBounds mb o)[k]? = _
  rw [Array.getElem?_setIfInBounds_ne (fun e=>hk e.symm)]
 refine ⟨⟨h.below.os,h.below.tape,h.below.output,?_,fun k hlt=>(hk k (by omega)).trans (h.below.block k hlt)⟩,fun x hx=>?_,h.apart⟩
 ·show _≤(w.heap.setIfInBounds mb o).size
  rw [Array.size_setIfInBounds]; exact h.below.size
 ·exact ⟨(h.own x hx).1,by rw [hk _ (ha x hx)]; exact (h.own x hx).2⟩
set_option maxRecDepth 100000 in
set_option maxHeartbeats 8000000 in
theorem groups_one (Q : Nat→Prop) (kv : Value) (k0 : Int) (tab : Bytes) (sa : Option Addr) (sn sc : Nat) (xop xn : Int) (xv : V) (xa : Option Addr) (xm xc : Nat) (ca : Option Addr) (cn cc : Nat) (ga : Option Addr) (gc : Nat) (aa : Option Addr) (ac : Nat) (oa : Option Addr) (om oc : Nat) (n0 : Int) (w : World)
  (hv : RSl intE Q w kv [1,1]) (hg : RSl intE Q w (.slice ga 1 gc) [0]) (ha : RSl agE Q w (.slice aa 1 ac) [⟨2,Xp.col 1⟩]) :
  Calls Tryz.prog 106 #[kv,.agg #[.int .i64 k0,.string ⟨tab.toArray⟩,.slice sa sn sc,.int .i64 xop,.int .i64 xn,.int .i64 xv.k,.int .i64 xv.n,.string xv.s,.slice xa xm xc,.slice ca cn cc,.slice ga 1 gc,.slice aa 1 ac,.slice oa om oc,.int .i64 n0]] w (RetInts w [1,1]):=by
 obtain ⟨ib,io,ic,ics,hib,hii,hit⟩:=hv.at (k:=0) rfl
 have e : ics = [.int .i64 1]:=hii
 subst e
 have z0:=hit 0 _ rfl
 simp only [Nat.zero_mul,Nat.add_zero] at z0
 obtain ⟨gb,go,gcp,gcs,hgb,hgi,hgt⟩:=hg.at (k:=0) rfl
 have e : gcs = [.int .i64 0]:=hgi
 subst e
 have z1:=hgt 0 _ rfl
 simp only [Nat.zero_mul,Nat.add_zero] at z1
 injection hgb with e1 e3 e2
 subst e1 e2
 clear e3
 obtain ⟨ab,ao,acp,acs,hab,hai,hat⟩:=ha.at (k:=0) rfl
 injection hab with e1 e3 e2
 subst e1 e2
 clear e3
 obtain ⟨c0,rfl,hx⟩:=hai
 obtain ⟨v0,rfl,hs0⟩:=xpIn_iff.1 (show XpIn Q w (.mk 1 1 V.null []) c0 from hx)
 obtain ⟨ad,dc,rfl⟩:=hs0.slice
 have t0:=hat 0 _ rfl
 have t1:=hat 1 _ rfl
 have t2:=hat 2 _ rfl
 have t3:=hat 3 _ rfl
 have t4:=hat 4 _ rfl
 have t5:=hat 5 _ rfl
 have t6:=hat 6 _ rfl
 simp only [Nat.zero_mul,Nat.add_zero,List.length_nil] at t0 t1 t2 t3 t4 t5 t6
 have CK : Hid (∀ W,Below w.heap.size w W→Calls Tryz.prog 174 #[kv,.agg #[.int .i64 1,.int .i64 1,.int .i64 0,.int .i64 0,.string ⟨#[]⟩,.slice ad 0 dc]] W (Says (.tuple #[.int .i64 1,.int .i64 0]) W)):=
  fun W hW=>check_col Q [1,1] _ 1 ad dc 1 W (hv.kept (by decide) hW) (by decide) rfl (by decide) (by decide)
 have ZZ : Hid (∀ W,Below w.heap.size w W→W.cell? ⟨ib,io,none⟩ = some (.int .i64 1)∧W.cell? ⟨gb,go,none⟩ = some (.int .i64 0) ∧
  (W.cell? ⟨ab,ao,none⟩ = some (.int .i64 2)∧W.cell? ⟨ab,ao + 1,none⟩ = some (.int .i64 1)∧W.cell? ⟨ab,ao + 2,none⟩ = some (.int .i64 1)∧W.cell? ⟨ab,ao + 3,none⟩ = some (.int .i64 0)∧W.cell? ⟨ab,ao + 4,none⟩ = some (.int .i64 0)∧W.cell? ⟨ab,ao + 5,none⟩ = some (.string ⟨#[]⟩)∧W.cell? ⟨ab,ao + 6,none⟩ = some (.slice ad 0 dc))):=
  fun W hW=>⟨hW.cell_kept z0,hW.cell_kept z1,hW.cell_kept t0,hW.cell_kept t1,hW.cell_kept t2,hW.cell_kept t3,hW.cell_kept t4,hW.cell_kept t5,hW.cell_kept t6⟩
 subst hib
 clear hv hg ha hit hgt hat hii hgi hx hs0 z0 z1 t0 t1 t2 t3 t4 t5 t6
 simp only [List.length_cons,List.length_nil,Nat.zero_add,Nat.reduceAdd] at CK ⊢
 go_enter Tryz.func106,Tryz.ntmps106
 go_upto_region 4 with fail
 refine St.gen (St.alloc (St.start _)) ?_
 intro w1 S1
 try (simp only [List.set_cons_zero,List.set_cons_succ,List.setIfInBounds_toArray,World.size_alloc] at S1)
 have hmm:=@run_makeMap Tryz.prog
 have F1:=S1.out.facts
 simp only [St.Facts,cellFacts,apartFacts,and_true] at F1
 go_upto_region 6 with fail
 refine wp_gen (fun W=>St w W _∧W.heap[w1.heap.size]? = some (.map #[] 0)) ⟨S1.out.kept ((Below.refl _ _).alloc (Nat.le_refl _) _),World.alloc_heap_new _ _⟩ ?_
 rintro w2 ⟨S2',hm2⟩
 have S2:=Lib.hid S2'
 have HM:=Lib.hid hm2
 have hsz : Hid (w.heap.size < w1.heap.size):=(Array.getElem?_eq_some_iff.1 (S1.out.own _ (List.mem_cons_self)).2).1
 clear S2' S1 F1 hmm hm2
 generalize w1.heap.size = mb at HM hsz ⊢
 have F2:=S2.out.facts
 simp only [St.Facts,cellFacts,apartFacts,and_true] at F2
 obtain ⟨z0,z1,_⟩:=ZZ.out _ S2.out.below
 have lk:=look0 HM.out
 have up:=upd0 HM.out
 refine wp_loop_rounds 2 ?_
 rw [rounds_succ]
 go_upto_region 11 with fail
 refine St.gen (St.put (mb:=mb) S2.out (Nat.le_of_lt hsz.out) (fun x hx=>by have h1:=List.mem_singleton.1 hx; subst h1; exact Nat.ne_of_lt hsz.out)) ?_
 intro w3 S3
 clear F2 S2 lk up z0 z1 HM
 have F3:=S3.out.facts
 simp only [St.Facts,cellFacts,apartFacts,and_true] at F3
 obtain ⟨z0,z1,t0,t1,t2,t3,t4,t5,t6⟩:=ZZ.out _ S3.out.below
 go_wp2_with (refine wpList_append_nil rfl (.tmp 45) (.tmp 50) 55 rfl 3 (.int .i64 0) 1 8 Tryz.underlying55 infoInt rfl (by decide) (St.laid S3.out) rfl _ 1 [.int .i64 1] rfl (by decide) (slAt_fresh (by decide)) rfl (by simp [Value.oneCell']) (by decide) (by unfold maxLen; decide) ?_; intro g cap zs w4 S4 hc1 hc2 hc3; simp only [List.cons_append,List.nil_append] at S4; have F4:=S4.out.facts; simp only [St.Facts,cellFacts,apartFacts,and_true] at F4)
 clear F3 S3 z0 z1 t0 t1 t2 t3 t4 t5 t6
 rw [rounds_succ]
 obtain ⟨z0,z1,t0,t1,t2,t3,t4,t5,t6⟩:=ZZ.out _ S4.out.below
 go_upto_region 16 with fail
 refine wp_loop_rounds 2 ?_
 rw [rounds_succ]
 go_wp2_with fail
 refine Calls.mono (CK.out _ (St.alloc S4.out).below) ?_
 rintro e w5 ⟨rfl,hb5⟩
 have S5:=Lib.hid ((St.alloc S4.out (cs:=#[.int .i64 2,.int .i64 1,.int .i64 1,.int .i64 0,.int .i64 0,.string ⟨#[]⟩,.slice ad 0 dc]) (t:=107)).kept hb5)
 clear hb5 F4 S4 z0 z1 t0 t1 t2 t3 t4 t5 t6 CK ZZ
 generalize w4.heap.size = ag at S5 ⊢
 have F5:=S5.out.facts
 simp only [St.Facts,cellFacts,apartFacts,and_true] at F5
 go_wp2_with (refine wpList_append_on rfl (.tmp 99) (.tmp 101) 55 rfl 3 (.int .i64 0) 1 8 Tryz.underlying55 infoInt rfl (by decide) 1 (xs:=[.int .i64 1]) (zs:=zs) (St.laid S5.out) rfl rfl rfl hc1 hc2 hc3 _ 1 [.int .i64 1] rfl (by decide) (slAt_fresh (by decide)) rfl (by simp [Value.oneCell']) (by decide) (by unfold maxLen; decide) ?_; intro g6 cap6 zs6 w6 S6 hd1 hd2 hd3; simp only [List.cons_append,List.nil_append,List.set_cons_zero,List.set_cons_succ] at S6; have F6:=S6.out.facts; simp only [St.Facts,cellFacts,apartFacts,and_true] at F6)
 clear F5 S5
 rw [rounds_succ]
 go_wp2_with fail
 go_returns
 exact ⟨_,rfl,rSl_ints (i:=1) S6.out rfl hd1,S6.out.below⟩
end Go.Proofs.YtjmmbebkbkgefaaGreatDoor
