/- Part 14; the last part says what is proved. No condition. -/
import Derived.ChangeArms
import Derived.DataReads
import Derived.DataElems
import Derived.SizedLaws
import Derived.Test.YtjmmbebkbkgefaaGreatDoorB12
import Derived.Test.YtjmmbebkbkgefaaGreatDoorB13
set_option linter.unusedVariables false
set_option linter.unusedSimpArgs false
set_option maxHeartbeats 4000000
set_option maxRecDepth 100000
namespace Go.Proofs.YtjmmbebkbkgefaaGreatDoor
open Go.ChangeShapes Go.WideShapes Go.ChangeAt Go.RowKit Go.Proofs.Tryz
section
variable {H:Type}
def Opens {α:Type} (enc:TypeId×Value->H) (W:World) (E:ElRep α) (F:α->Prop) (e:TypeId) (N:Nat):Prop:=
 ∀(n:Nat) (cs:List Value) (y:DataW H×List MemPlace),n<N->DataW.trod enc prog W 0 (fun _=>true) true n e cs=some y->(∀k∈y.1.weights prog e,k<=reachBytes)->∃x,F x/\E.In (fun _=>True) W x cs
variable {enc:TypeId×Value->H} {W:World}
theorem Hu {P:Program} {e:TypeId}:∀{l:List (DataW H)} {d:DataW H},d∈l->∀n∈d.weights P e,n∈DataW.weightsAll P e l
 | c::l,d,hd,n,hn=>by
  unfold DataW.weightsAll;rcases List.mem_cons.1 hd with rfl|hd
  ·exact List.mem_append_left _ hn
  ·exact List.mem_append_right _ (Hu hd n hn)
theorem Zh {w:World} {a:Addr} {v:Value} (h:w.cell? a=some v):a.spot=none:=by
 unfold World.cell? at h;split at h
 ·split at h
  ·cases h
  ·rename_i hs;simpa using hs
 ·cases h
theorem Lx {α:Type} {E:ElRep α} {F:α->Prop} {t e:TypeId} {N:Nat} (ht:prog.underlying t=some (.slice e)) (hc:prog.cellsOf e=E.k) (hk:0<E.k) (nb:Nat) (hb:prog.bytesOf e=nb) (hnb:1<=nb) (hel:Opens enc W E F e N)
 {fuel:Nat} (hN:fuel<=N) {cs:List Value} {y:DataW H×List MemPlace} (h:DataW.trod enc prog W 0 (fun _=>true) true fuel t cs=some y) (hw:∀k∈y.1.weights prog t,k<=reachBytes):
 ∃(v:Value) (l:List α),cs=[v]/\RSl E (fun _=>True) W v l/\(∀x∈l,F x)/\l.length<=reachBytes:=by
 rcases DataW.trod_slice ht h with⟨rfl,_⟩|⟨a,len,cap,elems,rest,n,hf,rfl,rfl,_,hl,_,hlen,hi,_,_⟩
 ·exact⟨_,[],rfl,⟨[],⟨none,0,rfl,Nat.le_refl _,fun h=>absurd h (by simp)⟩,rfl⟩,by simp,Nat.zero_le _⟩
 ·simp only[DataW.weights,ht]at hw;have key:∀q,q<=len->∃(l:List α) (acs:List Value),l.length=q/\LIn E (fun _=>True) W l acs/\(∀x∈l,F x)/\∀j,j<q * E.k->W.cell? (a.add j)=acs[j]?:=by
   intro q
   induction q with
   | zero=>intro _;exact⟨[],[],rfl,rfl,by simp,fun j hj=>by omega⟩
   | succ q ih=>
    intro hq;obtain⟨l,acs,hll,hL,hF,hat⟩:=ih (by omega);have h1:=hi q (by omega);obtain⟨el,hel1⟩:∃el,elems[q]?=some el:=⟨elems[q]'(by omega),by simp⟩;rw[hel1]at h1;obtain⟨cs',hcs,ht'⟩:=Option.bind_eq_some_iff.1 h1;obtain⟨_,hcl,hx2⟩:=World.cells?_some hcs;obtain⟨x,hx,hin⟩:=hel n cs' el (by omega) ht' (fun k hk'=>hw k (List.mem_cons_of_mem _ (List.mem_append_left _ (Hu (List.mem_map.2 ⟨el,List.mem_of_getElem? hel1,rfl⟩) k hk'))));have hal:=LIn.len hL;rw[hll]at hal;refine⟨l++[x],acs++cs',by simp[hll],LIn.append hL (LIn.one hin),fun z hz=>?_,fun j hj=>?_⟩
    ·rcases List.mem_append.1 hz with hz|hz
     ·exact hF z hz
     ·simp only[List.mem_singleton]at hz;subst hz;exact hx
    ·by_cases hjq:j<q * E.k
     ·rw[List.getElem?_append_left (by rw[hal];exact hjq)];exact hat j hjq
     ·rw[List.getElem?_append_right (by omega)];have h3:=hx2 (j - q * E.k) (by rw[hc];rw[Nat.add_mul]at hj;omega);rw[hc,Addr.add_add,show q * E.k+(j - q * E.k)=j by omega]at h3;rw[h3,hal]
  obtain⟨l,acs,hll,hL,hF,hat⟩:=key len (Nat.le_refl _);have hal:=LIn.len hL;rw[hll]at hal;refine⟨_,l,rfl,⟨acs,⟨some a,cap,by rw[hll],by omega,fun hp=>?_⟩,hL⟩,hF,?_⟩
  ·have hpos:0<len * E.k:=Nat.mul_pos (by omega) hk;have h0:=hat 0 hpos;obtain⟨u,hu⟩:∃u,acs[0]?=some u:=⟨acs[0]'(by omega),by simp⟩;rw[hu]at h0;have hs:=Zh h0;obtain⟨b,o,s⟩:=a;have hs':s=none:=by simpa[Addr.add]using hs
   subst hs';refine⟨b,o,rfl,trivial,fun j v hv=>?_⟩;have hj:j<acs.length:=(List.getElem?_eq_some_iff.1 hv).1;have h4:=hat j (by omega);rw[hv]at h4;rw[show(⟨b,o,none⟩:Addr).add j=⟨b,o+j,none⟩from by unfold Addr.add;split<;>simp_all]at h4;exact h4
  ·have h5:=hw _ List.mem_cons_self;simp only[List.length_map]at h5;have h6:elems.length<=(elems.length+rest.length) * prog.bytesOf e:=Nat.le_trans (Nat.le_add_right _ _) (Nat.le_mul_of_pos_right _ (by omega));omega
theorem Bp {t:TypeId} {fs:Array Field} {fuel:Nat} {cs:List Value} {y:DataW H×List MemPlace} (ht:prog.underlying t=some (.struct fs)) (h:DataW.trod enc prog W 0 (fun _=>true) true fuel t cs=some y) (hw:∀k∈y.1.weights prog t,k<=reachBytes):
 ∃n,fuel=n+1/\cs.length=prog.cellsOf t/\∀(i:Nat) (ty:TypeId) (off:Nat),fs[i]?.map (fun f=>(f.type,f.offset))=some (ty,off)->∃x,DataW.trod enc prog W 0 (fun _=>true) true n ty ((cs.drop off).take (prog.cellsOf ty))=some x/\∀k∈x.1.weights prog ty,k<=reachBytes:=by
 obtain⟨xs,n,hf,rfl,hlen,hxl,hx⟩:=DataW.trod_struct ht h
 refine⟨n,hf,hlen,fun i ty off hi'=>?_⟩
 obtain⟨f,hi,he⟩:=Option.map_eq_some_iff.1 hi'
 simp only[Prod.mk.injEq]at he
 obtain⟨rfl,rfl⟩:=he
 obtain⟨x,hxi⟩:∃x,xs[i]?=some x:=by
  have:i<fs.size:=by
   rcases Nat.lt_or_ge i fs.size with h|h
   ·exact h
   ·rw[Array.getElem?_eq_none h]at hi;cases hi
  exact⟨xs[i]'(by omega),by simp⟩
 refine⟨x,by rw[hx i f hi,hxi],fun k hk=>hw k ?_⟩
 simp only[DataW.weights,ht]
 exact DataW.weights_mem_each (j:=i) (by simp[hi]) (by simp[hxi]) k hk
theorem D8 {fuel:Nat} {cs:List Value} {y:DataW H×List MemPlace} (h:DataW.trod enc prog W 0 (fun _=>true) true fuel 9 cs=some y) (hw:∀k∈y.1.weights prog 9,k<=reachBytes):∃s:Bytes,cs=[.string ⟨s.toArray⟩]/\s.length<=reachBytes:=by
 obtain⟨s,rfl,rfl,_⟩:=DataW.trod_string underlying9 h;exact⟨s.data.toList,rfl,hw _ (by simp[DataW.weights])⟩
theorem Ej {fuel:Nat} {cs:List Value} {y:DataW H×List MemPlace} (h:DataW.trod enc prog W 0 (fun _=>true) true fuel 3 cs=some y):∃n:Int,cs=[.int .i64 n]/\-9223372036854775808<=n/\n<=9223372036854775807:=by
 obtain⟨n,rfl,_,wf⟩:=DataW.trod_int underlying3 h;exact⟨n,rfl,bounds_i64 wf⟩
theorem Qr {fuel:Nat} {cs:List Value} {y:DataW H×List MemPlace} (h:DataW.trod enc prog W 0 (fun _=>true) true fuel 4 cs=some y):∃b:Bool,cs=[.bool b]:=by
 obtain⟨b,rfl,_⟩:=DataW.trod_bool underlying4 h;exact⟨b,rfl⟩
theorem Tz (N:Nat):Opens enc W strE (fun s=>s.length<=reachBytes) 9 N:=fun n cs y _ h hw=>by
 obtain⟨s,e,hs⟩:=D8 h hw;exact⟨s,hs,e⟩
theorem Za {c:List Value} (h:c.length=2):∃a b,c=[a,b]:=by
 rcases c with _|⟨a,_|⟨b,_|⟨d,r⟩⟩⟩<;>simp at h
 exact⟨a,b,rfl⟩
theorem Of {fuel:Nat} {cs:List Value} {y:DataW H×List MemPlace} (h:DataW.trod enc prog W 0 (fun _=>true) true fuel 24 cs=some y) (hw:∀k∈y.1.weights prog 24,k<=reachBytes):∃v:V,v.Wf/\cs=[.int .i64 v.k,.int .i64 v.n,.string v.s]:=by
 obtain⟨n,_,hlen,hf⟩:=Bp underlying24 h hw;rw[show prog.cellsOf 24=3 by kernel_rfl]at hlen;obtain⟨c0,c1,c2,rfl⟩:∃c0 c1 c2,cs=[c0,c1,c2]:=by
  rcases cs with _|⟨a,_|⟨b,_|⟨c,_|⟨d,r⟩⟩⟩⟩<;>simp at hlen
  exact⟨a,b,c,rfl⟩
 obtain⟨x0,t0,_⟩:=hf 0 3 0 rfl;obtain⟨x1,t1,_⟩:=hf 1 3 1 rfl;obtain⟨x2,t2,w2⟩:=hf 2 9 2 rfl;simp only[show prog.cellsOf 3=1 by kernel_rfl,show prog.cellsOf 9=1 by kernel_rfl,List.drop_zero,List.drop_succ_cons,List.take_succ_cons,List.take_zero]at t0 t1 t2;obtain⟨k,e0,_⟩:=Ej t0;obtain⟨m,e1,b1,b2⟩:=Ej t1;obtain⟨s,e2,_⟩:=D8 t2 w2;simp only[List.cons.injEq,and_true]at e0 e1 e2;subst e0 e1 e2;exact⟨⟨k,m,⟨s.toArray⟩⟩,⟨b1,b2⟩,rfl⟩
theorem Yb {Q:Nat->Prop} {w:World}:∀{l:List Ex} {acs:List Value},LIn exE Q w l acs->ExsIn Q w l acs
 | [],acs,h=>h
 | e::l,acs,h=>by
  obtain⟨c1,c2,rfl,h1,h2⟩:=h;exact⟨c1,c2,rfl,h1,Yb h2⟩
theorem M9 {Q:Nat->Prop} {w:World} {v:Value} {l:List Ex} (h:RSl exE Q w v l):ExSl Q w v l:=by
 obtain⟨acs,h1,h2⟩:=h;exact⟨acs,h1,Yb h2⟩
theorem Hd:∀N:Nat,Opens enc W exE Ex.Wf 27 N:=by
 have key:∀n:Nat,∀m:Nat,m<=n->∀(cs:List Value) (y:DataW H×List MemPlace),DataW.trod enc prog W 0 (fun _=>true) true m 27 cs=some y->(∀k∈y.1.weights prog 27,k<=reachBytes)->∃x:Ex,x.Wf/\ExIn (fun _=>True) W x cs:=by
  intro n
  induction n with
  | zero=>
   intro m hm cs y h hw;obtain⟨n,hn,_⟩:=Bp underlying27 h hw;omega
  | succ n ih=>
   intro m hm cs y h hw;obtain⟨n',hn,hlen,hf⟩:=Bp underlying27 h hw;rw[show prog.cellsOf 27=7 by kernel_rfl]at hlen;obtain⟨c0,c1,c2,c3,c4,c5,c6,rfl⟩:∃c0 c1 c2 c3 c4 c5 c6,cs=[c0,c1,c2,c3,c4,c5,c6]:=by
    rcases cs with _|⟨a,_|⟨b,_|⟨c,_|⟨d,_|⟨e,_|⟨f,_|⟨g,_|⟨i,r⟩⟩⟩⟩⟩⟩⟩⟩<;>simp at hlen
    exact⟨a,b,c,d,e,f,g,rfl⟩
   obtain⟨x0,t0,_⟩:=hf 0 3 0 rfl;obtain⟨x1,t1,w1⟩:=hf 1 9 1 rfl;obtain⟨x2,t2,w2⟩:=hf 2 9 2 rfl;obtain⟨x3,t3,w3⟩:=hf 3 24 3 rfl;obtain⟨x4,t4,w4⟩:=hf 4 25 6 rfl;simp only[show prog.cellsOf 3=1 by kernel_rfl,show prog.cellsOf 9=1 by kernel_rfl,show prog.cellsOf 24=3 by kernel_rfl,show prog.cellsOf 25=1 by kernel_rfl,List.drop_zero,List.drop_succ_cons,List.take_succ_cons,List.take_zero]at t0 t1 t2 t3 t4;obtain⟨op,e0,_⟩:=Ej t0;obtain⟨tb,e1,b1⟩:=D8 t1 w1;obtain⟨nm,e2,b2⟩:=D8 t2 w2;obtain⟨v,hv,e3⟩:=Of t3 w3;obtain⟨av,l,e4,hl,hF,_⟩:=Lx (E:=exE) (F:=Ex.Wf) (N:=n') underlying25 (by kernel_rfl) (by decide) 96 (by kernel_rfl) (by decide) (fun k cs y hk h hw=>ih k (by omega) cs y h hw) (Nat.le_refl _) t4 w4;simp only[List.cons.injEq,and_true]at e0 e1 e2 e3 e4;obtain⟨rfl,rfl,rfl⟩:=e3;subst e0 e1 e2 e4;have hr:reachBytes<=1152921504606846976:=by decide
   obtain⟨acs,h1,h2⟩:=M9 hl;exact⟨.mk op tb nm v l,⟨⟨by omega,by omega⟩,hv,exsWf_of hF⟩,_,acs,rfl,h1,h2⟩
 exact fun N n cs y _ h hw=>key n n (Nat.le_refl _) cs y h hw
theorem Xj (N:Nat):Opens enc W pkE (fun p=>p.arg.Wf) 70 N:=fun n cs y _ h hw=>by
 obtain⟨n',_,hlen,hf⟩:=Bp underlying70 h hw;rw[show prog.cellsOf 70=8 by kernel_rfl]at hlen;obtain⟨c0,r,rfl⟩:∃c0 r,cs=c0::r:=by
  cases cs with
  | nil=>simp at hlen
  | cons a r=>exact⟨a,r,rfl⟩
 obtain⟨x0,t0,_⟩:=hf 0 3 0 rfl;obtain⟨x1,t1,w1⟩:=hf 1 27 1 rfl;simp only[show prog.cellsOf 3=1 by kernel_rfl,show prog.cellsOf 27=7 by kernel_rfl,List.drop_zero,List.drop_succ_cons,List.take_succ_cons,List.take_zero]at t0 t1;rw[List.take_of_length_le (by simp at hlen;omega)]at t1;obtain⟨fn,e0,_⟩:=Ej t0;obtain⟨e,he,hin⟩:=Hd (enc:=enc) (W:=W) (n'+1) n' r x1 (by omega) t1 w1;simp only[List.cons.injEq,and_true]at e0;subst e0;exact⟨⟨fn,e⟩,he,r,rfl,hin⟩
theorem T2 (N:Nat):Opens enc W srtE (fun _=>True) 156 N:=fun n cs y _ h hw=>by
 obtain⟨n',_,hlen,hf⟩:=Bp underlying156 h hw;rw[show prog.cellsOf 156=2 by kernel_rfl]at hlen;obtain⟨c0,c1,rfl⟩:=Za hlen;obtain⟨x0,t0,_⟩:=hf 0 3 0 rfl;obtain⟨x1,t1,_⟩:=hf 1 4 1 rfl;simp only[show prog.cellsOf 3=1 by kernel_rfl,show prog.cellsOf 4=1 by kernel_rfl,List.drop_zero,List.drop_succ_cons,List.take_succ_cons,List.take_zero]at t0 t1;obtain⟨p,e0,_⟩:=Ej t0;obtain⟨b,e1⟩:=Qr t1;simp only[List.cons.injEq,and_true]at e0 e1;subst e0 e1;exact⟨⟨p,b⟩,trivial,rfl⟩
theorem Xo {fuel:Nat} {cs:List Value} {y:DataW H×List MemPlace} (h:DataW.trod enc prog W 0 (fun _=>true) true fuel 38 cs=some y) (hw:∀k∈y.1.weights prog 38,k<=reachBytes):∃c:Col,cs=c.cells:=by
 obtain⟨n',_,hlen,hf⟩:=Bp underlying38 h hw;rw[show prog.cellsOf 38=3 by kernel_rfl]at hlen;obtain⟨c0,c1,c2,rfl⟩:∃c0 c1 c2,cs=[c0,c1,c2]:=by
  rcases cs with _|⟨a,_|⟨b,_|⟨c,_|⟨d,r⟩⟩⟩⟩<;>simp at hlen
  exact⟨a,b,c,rfl⟩
 obtain⟨x0,t0,w0⟩:=hf 0 9 0 rfl;obtain⟨x1,t1,_⟩:=hf 1 3 1 rfl;obtain⟨x2,t2,_⟩:=hf 2 4 2 rfl;simp only[show prog.cellsOf 3=1 by kernel_rfl,show prog.cellsOf 9=1 by kernel_rfl,show prog.cellsOf 4=1 by kernel_rfl,List.drop_zero,List.drop_succ_cons,List.take_succ_cons,List.take_zero]at t0 t1 t2;obtain⟨s,e0,_⟩:=D8 t0 w0;obtain⟨k,e1,_⟩:=Ej t1;obtain⟨b,e2⟩:=Qr t2;simp only[List.cons.injEq,and_true]at e0 e1 e2;subst e0 e1 e2;exact⟨⟨s,k,b⟩,rfl⟩
theorem Wc (N:Nat):Opens enc W colE (fun _=>True) 38 N:=fun n cs y _ h hw=>by
 obtain⟨c,e⟩:=Xo h hw;exact⟨c,trivial,e⟩
theorem Wg (N:Nat):Opens enc W chkE (fun c=>c.val.Wf) 144 N:=fun n cs y _ h hw=>by
 obtain⟨n',_,hlen,hf⟩:=Bp underlying144 h hw;rw[show prog.cellsOf 144=5 by kernel_rfl]at hlen;obtain⟨c0,c1,c2,c3,c4,rfl⟩:∃c0 c1 c2 c3 c4,cs=[c0,c1,c2,c3,c4]:=by
  rcases cs with _|⟨a,_|⟨b,_|⟨c,_|⟨d,_|⟨e,_|⟨f,r⟩⟩⟩⟩⟩⟩<;>simp at hlen
  exact⟨a,b,c,d,e,rfl⟩
 obtain⟨x0,t0,_⟩:=hf 0 3 0 rfl;obtain⟨x1,t1,_⟩:=hf 1 3 1 rfl;obtain⟨x2,t2,w2⟩:=hf 2 24 2 rfl;simp only[show prog.cellsOf 3=1 by kernel_rfl,show prog.cellsOf 24=3 by kernel_rfl,List.drop_zero,List.drop_succ_cons,List.take_succ_cons,List.take_zero]at t0 t1 t2;obtain⟨c,e0,_⟩:=Ej t0;obtain⟨o,e1,_⟩:=Ej t1;obtain⟨v,hv,e2⟩:=Of t2 w2;simp only[List.cons.injEq,and_true]at e0 e1 e2;obtain⟨rfl,rfl,rfl⟩:=e2;subst e0 e1;exact⟨⟨c,o,v⟩,hv,rfl⟩
end
end Go.Proofs.YtjmmbebkbkgefaaGreatDoor
namespace Go.Proofs.YtjmmbebkbkgefaaGreatDoor
open Go.ChangeShapes Go.WideShapes Go.ChangeAt Go.RowKit Go.Proofs.Tryz
section
variable {H:Type} {enc:TypeId×Value->H} {W:World}
theorem E8 {cs a:List Value} {o k:Nat} (h:(cs.drop o).take k=a):cs.drop o=a++cs.drop (o+k):=by
 rw[<- h,<- List.drop_drop,List.take_append_drop]
theorem Xn {fuel:Nat} {cs:List Value} {y:DataW H×List MemPlace} (h:DataW.trod enc prog W 0 (fun _=>true) true fuel 27 cs=some y) (hw:∀k∈y.1.weights prog 27,k<=reachBytes):
 ∃(e:Ex) (a:Option Addr) (c:Nat),e.Wf/\cs=[.int .i64 e.op,.string ⟨e.table.toArray⟩,.string ⟨e.name.toArray⟩,.int .i64 e.val.k,.int .i64 e.val.n,.string e.val.s,.slice a e.args.length c]/\ExSl (fun _=>True) W (.slice a e.args.length c) e.args:=by
 obtain⟨e,he,hin⟩:=Hd (enc:=enc) (W:=W) (fuel+1) fuel cs y (by omega) h hw
 obtain⟨op,t,n,v,args⟩:=e
 obtain⟨a,acs,rfl,h1,h2⟩:=hin
 obtain⟨ad,cap,rfl,h3⟩:=h1
 exact⟨.mk op t n v args,ad,cap,he,rfl,acs,⟨ad,cap,rfl,h3⟩,h2⟩
theorem Dr {α:Type} {E:ElRep α} {F:α->Prop} {t e:TypeId} (ht:prog.underlying t=some (.slice e)) (hc:prog.cellsOf e=E.k) (hk:0<E.k) (nb:Nat) (hb:prog.bytesOf e=nb) (hnb:1<=nb) (hel:∀N,Opens enc W E F e N)
 {fuel:Nat} {cs:List Value} {y:DataW H×List MemPlace} (h:DataW.trod enc prog W 0 (fun _=>true) true fuel t cs=some y) (hw:∀k∈y.1.weights prog t,k<=reachBytes):
 ∃(l:List α) (a:Option Addr) (c:Nat),cs=[.slice a l.length c]/\RSl E (fun _=>True) W (.slice a l.length c) l/\(∀x∈l,F x)/\l.length<=reachBytes:=by
 obtain⟨v,l,rfl,hl,hF,hb⟩:=Lx ht hc hk nb hb hnb (hel fuel) (Nat.le_refl _) h hw
 obtain⟨a,c,rfl⟩:=hl.slice
 exact⟨l,a,c,rfl,hl,hF,hb⟩
theorem Xm {t e:TypeId} (ht:prog.underlying t=some (.slice e)) (nb:Nat) (hb:prog.bytesOf e=nb) (hnb:1<=nb) {fuel:Nat} {cs:List Value} {y:DataW H×List MemPlace} (h:DataW.trod enc prog W 0 (fun _=>true) true fuel t cs=some y) (hw:∀k∈y.1.weights prog t,k<=reachBytes):
 ∃(a:Option Addr) (n c:Nat),cs=[.slice a n c]/\n<=reachBytes:=by
 rcases DataW.trod_slice ht h with⟨rfl,_⟩|⟨a,len,cap,elems,rest,n,hf,rfl,rfl,_,hl,_,hlen,_,_,_⟩
 ·exact⟨none,0,0,rfl,Nat.zero_le _⟩
 ·simp only[DataW.weights,ht]at hw;have h5:=hw _ List.mem_cons_self;simp only[List.length_map]at h5;have h6:elems.length<=(elems.length+rest.length) * prog.bytesOf e:=Nat.le_trans (Nat.le_add_right _ _) (Nat.le_mul_of_pos_right _ (by omega));exact⟨some a,len,cap,rfl,by omega⟩
theorem Xk {fuel:Nat} {cs:List Value} {y:DataW H×List MemPlace} (h:DataW.trod enc prog W 0 (fun _=>true) true fuel 36 cs=some y) (hw:∀k∈y.1.weights prog 36,k<=reachBytes):
 ∃(t:Tbl) (p1 p2 p3:SlP),cs=[.string ⟨t.name.toArray⟩,sl p1,sl p2,sl p3]/\RTblI (fun _=>True) W t (.agg #[.string ⟨t.name.toArray⟩,sl p1,sl p2,sl p3])/\(∀c∈t.checks,c.val.Wf)/\t.cols.length+t.indexes.length+t.checks.length<=3 * reachBytes/\t.name.length<=reachBytes:=by
 obtain⟨n',_,hlen,hf⟩:=Bp underlying36 h hw
 rw[show prog.cellsOf 36=4 by kernel_rfl]at hlen
 obtain⟨c0,c1,c2,c3,rfl⟩:∃c0 c1 c2 c3,cs=[c0,c1,c2,c3]:=by
  rcases cs with _|⟨a,_|⟨b,_|⟨c,_|⟨d,_|⟨e,r⟩⟩⟩⟩⟩<;>simp at hlen
  exact⟨a,b,c,d,rfl⟩
 obtain⟨x0,t0,w0⟩:=hf 0 9 0 rfl
 obtain⟨x1,t1,w1⟩:=hf 1 32 1 rfl
 obtain⟨x2,t2,w2⟩:=hf 2 33 2 rfl
 obtain⟨x3,t3,w3⟩:=hf 3 34 3 rfl
 simp only[show prog.cellsOf 9=1 by kernel_rfl,show prog.cellsOf 32=1 by kernel_rfl,show prog.cellsOf 33=1 by kernel_rfl,show prog.cellsOf 34=1 by kernel_rfl,List.drop_zero,List.drop_succ_cons,List.take_succ_cons,List.take_zero]at t0 t1 t2 t3
 obtain⟨s,e0,b0⟩:=D8 t0 w0
 obtain⟨cl,ca,cc,e1,hcl,_,b1⟩:=Dr (E:=colE) underlying32 (by kernel_rfl) (by decide) 32 (by kernel_rfl) (by decide) Wc t1 w1
 obtain⟨ia,n,ic,e2,b2⟩:=Xm underlying33 48 (by kernel_rfl) (by decide) t2 w2
 obtain⟨kl,ka,kc,e3,hkl,hF,b3⟩:=Dr (E:=chkE) underlying34 (by kernel_rfl) (by decide) 48 (by kernel_rfl) (by decide) Wg t3 w3
 simp only[List.cons.injEq,and_true]at e0 e1 e2 e3
 subst e0 e1 e2 e3
 refine⟨⟨s,cl,List.replicate n ⟨[],[],false⟩,kl⟩,(ca,cl.length,cc),(ia,n,ic),(ka,kl.length,kc),rfl,⟨ca,cc,ia,ic,ka,kc,by simp[sl],hcl,hkl⟩,hF,?_,b0⟩
 simp only[List.length_replicate];omega
theorem Xl {fuel:Nat} {cs:List Value} {y:DataW H×List MemPlace} (h:DataW.trod enc prog W 0 (fun _=>true) true fuel 44 cs=some y) (hw:∀k∈y.1.weights prog 44,k<=reachBytes):
 ∃(x:Sel) (xi xf xo ya xg xs:SlP),cs=[.bool x.distinct,sl xi,sl xf,sl xo,.int .i64 x.where_.op,.string ⟨x.where_.table.toArray⟩,.string ⟨x.where_.name.toArray⟩,.int .i64 x.where_.val.k,.int .i64 x.where_.val.n,.string x.where_.val.s,sl ya,sl xg,sl xs,.int .i64 x.limit]/\
  RSelQ (fun _=>True) W x (.agg #[.bool x.distinct,sl xi,sl xf,sl xo,.int .i64 x.where_.op,.string ⟨x.where_.table.toArray⟩,.string ⟨x.where_.name.toArray⟩,.int .i64 x.where_.val.k,.int .i64 x.where_.val.n,.string x.where_.val.s,sl ya,sl xg,sl xs,.int .i64 x.limit])/\x.Wf/\x.lists<=5 * reachBytes:=by
 obtain⟨n',_,hlen,hf⟩:=Bp underlying44 h hw
 rw[show prog.cellsOf 44=14 by kernel_rfl]at hlen
 obtain⟨x0,t0,_⟩:=hf 0 4 0 rfl
 obtain⟨x1,t1,w1⟩:=hf 1 41 1 rfl
 obtain⟨x2,t2,w2⟩:=hf 2 39 2 rfl
 obtain⟨x3,t3,w3⟩:=hf 3 25 3 rfl
 obtain⟨x4,t4,w4⟩:=hf 4 27 4 rfl
 obtain⟨x5,t5,w5⟩:=hf 5 25 11 rfl
 obtain⟨x6,t6,w6⟩:=hf 6 42 12 rfl
 obtain⟨x7,t7,_⟩:=hf 7 3 13 rfl
 obtain⟨d,e0⟩:=Qr t0
 obtain⟨il,ia,ic,e1,hil,fi,b1⟩:=Dr (E:=pkE) underlying41 (by kernel_rfl) (by decide) 104 (by kernel_rfl) (by decide) Xj t1 w1
 obtain⟨fl,fa,fc,e2,hfl,_,b2⟩:=Dr (E:=strE) underlying39 (by kernel_rfl) (by decide) 16 (by kernel_rfl) (by decide) Tz t2 w2
 obtain⟨ol,oa,oc,e3,hol,fo,b3⟩:=Dr (E:=exE) underlying25 (by kernel_rfl) (by decide) 96 (by kernel_rfl) (by decide) Hd t3 w3
 obtain⟨wh,wa,wc,fw,e4,hwh⟩:=Xn t4 w4
 obtain⟨gl,ga,gc,e5,hgl,fg,b5⟩:=Dr (E:=exE) underlying25 (by kernel_rfl) (by decide) 96 (by kernel_rfl) (by decide) Hd t5 w5
 obtain⟨ql,qa,qc,e6,hql,_,b6⟩:=Dr (E:=srtE) underlying42 (by kernel_rfl) (by decide) 16 (by kernel_rfl) (by decide) T2 t6 w6
 obtain⟨lm,e7,_⟩:=Ej t7
 simp only[show prog.cellsOf 4=1 by kernel_rfl,show prog.cellsOf 41=1 by kernel_rfl,show prog.cellsOf 39=1 by kernel_rfl,show prog.cellsOf 25=1 by kernel_rfl,show prog.cellsOf 27=7 by kernel_rfl,show prog.cellsOf 42=1 by kernel_rfl,show prog.cellsOf 3=1 by kernel_rfl]at e0 e1 e2 e3 e4 e5 e6 e7
 have hcs:cs=_:=(List.drop_zero).symm.trans (E8 e0)
 rw[Nat.zero_add,E8 e1,E8 e2,E8 e3,E8 e4,E8 e5,E8 e6,E8 e7,List.drop_eq_nil_of_le (by omega)]at hcs
 refine⟨⟨d,il,fl,ol,wh,gl,ql,lm⟩,(ia,il.length,ic),(fa,fl.length,fc),(oa,ol.length,oc),(wa,wh.args.length,wc),(ga,gl.length,gc),(qa,ql.length,qc),hcs,⟨ia,ic,fa,fc,oa,oc,wa,wc,ga,gc,qa,qc,rfl,hil,hfl,hol,hwh,hgl,hql⟩,⟨fi,fo,fw,fg⟩,?_⟩
 unfold Sel.lists
 simp only
 omega
end
end Go.Proofs.YtjmmbebkbkgefaaGreatDoor
namespace Go.Proofs.YtjmmbebkbkgefaaGreatDoor
open Go.RowKit Go.Sort Go.Proofs.Tryz
section
set_option maxRecDepth 100000
set_option maxHeartbeats 4000000
theorem Yl (a b:Option Addr) (c d:Nat) (f:Value) (w:World):Calls prog 167 #[.slice a 0 c,.slice b 0 d,f] w (Says (.bool true) w):=by
 go_enter func167,ntmps167;go_wp2_with fail;refine wp_loop_rounds 1 ?_;rw[rounds_succ];go_wp2_with fail;go_returns;exact⟨rfl,Below.refl _ _⟩
theorem bu (a b:Option Addr) (c d:Nat) (f:Value) (w:World):Calls prog 169 #[.slice a 0 c,.slice b 0 d,f] w (Says (.bool true) w):=by
 go_enter func169,ntmps169;go_wp2_with fail;refine wp_loop_rounds 1 ?_;rw[rounds_succ];go_wp2_with fail;go_returns;exact⟨rfl,Below.refl _ _⟩
theorem bp (a b:Option Addr) (c d:Nat) (f:Value) (w:World):Calls prog 171 #[.slice a 0 c,.slice b 0 d,f] w (Says (.bool true) w):=by
 go_enter func171,ntmps171;go_wp2_with fail;refine wp_loop_rounds 1 ?_;rw[rounds_succ];go_wp2_with fail;go_returns;exact⟨rfl,Below.refl _ _⟩
theorem cu (a b:Option Addr) (c d:Nat) (w:World):Calls prog 168 #[.slice a 0 c,.slice b 0 d] w (Says (.bool true) w):=by
 go_enter func168,ntmps168;go_wp2_with fail;refine wp_loop_rounds 1 ?_;rw[rounds_succ];go_wp2_with fail;go_returns;exact⟨rfl,Below.refl _ _⟩
theorem ct (a b:Option Addr) (c d:Nat) (w:World):Calls prog 170 #[.slice a 0 c,.slice b 0 d] w (Says (.bool true) w):=by
 go_enter func170,ntmps170;go_wp2_with fail;refine wp_loop_rounds 1 ?_;rw[rounds_succ];go_wp2_with fail;go_returns;exact⟨rfl,Below.refl _ _⟩
theorem Ye (op n:Int) (v:V) (a b:Option Addr) (c d:Nat) (w:World):Calls prog 165 #[.agg #[.int .i64 op,.int .i64 n,.int .i64 v.k,.int .i64 v.n,.string v.s,.slice a 0 c],.agg #[.int .i64 op,.int .i64 n,.int .i64 v.k,.int .i64 v.n,.string v.s,.slice b 0 d]] w (Says (.bool true) w):=by
 go_enter func165,ntmps165;go_wp2_with fail;refine Calls.mono (Yl a b c d _ _) ?_;rintro e w1 ⟨rfl,hb1⟩;go_wp2_with fail;go_returns;exact⟨rfl,(((Below.refl _ _).alloc (Nat.le_refl _) _).alloc (by simp) _).trans (hb1.mono (by simp only[World.size_alloc];omega))⟩
end
mutual
def XpIn (Q:Nat->Prop) (w:World):Xp->List Value->Prop
 | .mk op n v args,cs=>∃a acs,cs=[.int .i64 op,.int .i64 n,.int .i64 v.k,.int .i64 v.n,.string v.s,a]/\SlIn Q w a args.length acs/\XpsIn Q w args acs
def XpsIn (Q:Nat->Prop) (w:World):List Xp->List Value->Prop
 | [],acs=>acs=[]
 | e::l,acs=>∃c1 c2,acs=c1++c2/\XpIn Q w e c1/\XpsIn Q w l c2
end
theorem XpIn.len {Q:Nat->Prop} {w:World} {e:Xp} {cs:List Value} (h:XpIn Q w e cs):cs.length=6:=by
 obtain⟨op,n,v,args⟩:=e;obtain⟨a,acs,rfl,_⟩:=h;rfl
theorem XpsIn.len {Q:Nat->Prop} {w:World}:∀{l:List Xp} {acs:List Value},XpsIn Q w l acs->acs.length=l.length * 6
 | [],acs,h=>by simp only[XpsIn]at h;subst h;rfl
 | e::l,acs,h=>by
  obtain⟨c1,c2,rfl,h1,h2⟩:=h;have:=h1.len;have:=XpsIn.len h2;simp only[List.length_append,List.length_cons];omega
theorem XpIn.ones {Q:Nat->Prop} {w:World} {e:Xp} {cs:List Value} (h:XpIn Q w e cs):∀u∈cs,u.oneCell'=true:=by
 obtain⟨op,n,v,args⟩:=e;obtain⟨a,acs,rfl,h1,_⟩:=h;intro u hu;simp only[List.mem_cons,List.not_mem_nil,or_false]at hu;rcases hu with rfl|rfl|rfl|rfl|rfl|rfl
 all_goals first|rfl|exact Jm h1
theorem Ll {Q R:Nat->Prop} {w w':World} (hq:∀b,b<w.heap.size->Q b->R b/\w'.heap[b]?=w.heap[b]?) {v:Value} {n:Nat} {cs:List Value} (h0:0<n->cs≠[]) (h:SlIn Q w v n cs):SlIn R w' v n cs:=by
 obtain⟨ad,cap,e,hc,h⟩:=h;refine⟨ad,cap,e,hc,fun hn=>?_⟩;obtain⟨b,o,e2,k1,k2⟩:=h hn;have:=hq b (k2.lt (h0 hn)) k1;exact⟨b,o,e2,this.1,k2.same this.2⟩
theorem L0 {n k:Nat} {cs:List Value} (hl:cs.length=n * k) (hk:0<k):0<n->cs≠[]:=fun hn e=>by
 have:0<n * k:=Nat.mul_pos hn hk;rw[e]at hl;simp at hl;omega
theorem Au {Q R:Nat->Prop} {w w':World} (hq:∀b,b<w.heap.size->Q b->R b/\w'.heap[b]?=w.heap[b]?):∀e:Xp,∀cs,XpIn Q w e cs->XpIn R w' e cs:=by
 refine Xp.ind fun op n v args ih=>?_;rintro cs ⟨a,acs,rfl,h1,h2⟩;have key:∀(l:List Xp) (acs:List Value),(∀e∈l,∀cs,XpIn Q w e cs->XpIn R w' e cs)->XpsIn Q w l acs->XpsIn R w' l acs:=by
  intro l
  induction l with
  | nil=>intro acs _ h;exact h
  | cons e l ihl=>
   rintro acs hl ⟨c1,c2,rfl,k1,k2⟩;exact⟨c1,c2,rfl,hl e (by simp) _ k1,ihl _ (fun d hd=>hl d (by simp[hd])) k2⟩
 exact⟨a,acs,rfl,Ll hq (L0 (XpsIn.len h2) (by decide)) h1,key args acs ih h2⟩
def xpE:ElRep Xp where
 k:=6
 In:=XpIn
 val cs:=.agg cs.toArray
 len h:=h.len
 ones h:=h.ones
 move hq h:=Au hq _ _ h
theorem Fl {Q:Nat->Prop} {w:World}:∀{l:List Xp} {acs:List Value},XpsIn Q w l acs↔LIn xpE Q w l acs
 | [],acs=>by simp only[XpsIn,LIn]
 | e::l,acs=>by
  simp only[XpsIn,LIn];exact⟨fun⟨c1,c2,h1,h2,h3⟩=>⟨c1,c2,h1,h2,Fl.1 h3⟩,fun⟨c1,c2,h1,h2,h3⟩=>⟨c1,c2,h1,h2,Fl.2 h3⟩⟩
theorem Ai {Q:Nat->Prop} {w:World} {op n:Int} {v:V} {args:List Xp} {cs:List Value}:XpIn Q w (.mk op n v args) cs↔∃a,cs=[.int .i64 op,.int .i64 n,.int .i64 v.k,.int .i64 v.n,.string v.s,a]/\RSl xpE Q w a args:=
 ⟨fun⟨a,acs,h1,h2,h3⟩=>⟨a,h1,acs,h2,Fl.1 h3⟩,fun⟨a,h1,acs,h2,h3⟩=>⟨a,acs,h1,h2,Fl.2 h3⟩⟩
def intE:ElRep Int where
 k:=1
 In _ _ n cs:=cs=[.int .i64 n]
 val cs:=cs.headD undef
 len h:=by subst h;rfl
 ones h u hu:=by subst h;simp only[List.mem_singleton]at hu;subst hu;rfl
 move _ h:=h
def odE:ElRep Od where
 k:=2
 In _ _ s cs:=cs=[.int .i64 s.col,.bool s.down]
 val cs:=.agg cs.toArray
 len h:=by subst h;rfl
 ones h u hu:=by subst h;simp only[List.mem_cons,List.not_mem_nil,or_false]at hu;rcases hu with rfl|rfl<;>rfl
 move _ h:=h
def agE:ElRep Ag where
 k:=7
 In Q w p cs:=∃c,cs=.int .i64 p.fn::c/\XpIn Q w p.arg c
 val cs:=.agg cs.toArray
 len h:=by obtain⟨c,rfl,h⟩:=h;simp[h.len]
 ones h u hu:=by
  obtain⟨c,rfl,h⟩:=h;rcases List.mem_cons.1 hu with rfl|hu
  ·rfl
  ·exact h.ones u hu
 move hq h:=by obtain⟨c,rfl,h⟩:=h;exact⟨c,rfl,Au hq _ _ h⟩
def tblE:ElRep Tbl where
 k:=4
 In Q w t cs:=∃ca cc ia ic ka kc,cs=[.string ⟨t.name.toArray⟩,.slice ca t.cols.length cc,.slice ia t.indexes.length ic,.slice ka t.checks.length kc]/\RSl colE Q w (.slice ca t.cols.length cc) t.cols
 val cs:=.agg cs.toArray
 len h:=by obtain⟨ca,cc,ia,ic,ka,kc,rfl,_⟩:=h;rfl
 ones h u hu:=by
  obtain⟨ca,cc,ia,ic,ka,kc,rfl,_⟩:=h;simp only[List.mem_cons,List.not_mem_nil,or_false]at hu;rcases hu with rfl|rfl|rfl|rfl<;>rfl
 move hq h:=by obtain⟨ca,cc,ia,ic,ka,kc,rfl,h⟩:=h;exact⟨ca,cc,ia,ic,ka,kc,rfl,Ad (by decide) hq h⟩
mutual
def QyIn (Q:Nat->Prop) (w:World):Qy->List Value->Prop
 | .mk k tab subs cond cols group aggs order n,cs=>∃sa sacs xcs ca ga aa oa,cs=.int .i64 k::.string ⟨tab.toArray⟩::sa::(xcs++[ca,ga,aa,oa,.int .i64 n])/\SlIn Q w sa subs.length sacs/\QysIn Q w subs sacs/\
  XpIn Q w cond xcs/\RSl xpE Q w ca cols/\RSl intE Q w ga group/\RSl agE Q w aa aggs/\RSl odE Q w oa order
def QysIn (Q:Nat->Prop) (w:World):List Qy->List Value->Prop
 | [],acs=>acs=[]
 | e::l,acs=>∃c1 c2,acs=c1++c2/\QyIn Q w e c1/\QysIn Q w l c2
end
theorem QyIn.len {Q:Nat->Prop} {w:World} {e:Qy} {cs:List Value} (h:QyIn Q w e cs):cs.length=14:=by
 obtain⟨k,tab,subs,cond,cols,group,aggs,order,n⟩:=e;obtain⟨sa,sacs,xcs,ca,ga,aa,oa,rfl,_,_,h,_⟩:=h;simp[h.len]
theorem QysIn.len {Q:Nat->Prop} {w:World}:∀{l:List Qy} {acs:List Value},QysIn Q w l acs->acs.length=l.length * 14
 | [],acs,h=>by simp only[QysIn]at h;subst h;rfl
 | e::l,acs,h=>by
  obtain⟨c1,c2,rfl,h1,h2⟩:=h;have:=h1.len;have:=QysIn.len h2;simp only[List.length_append,List.length_cons];omega
theorem Zm {α:Type} {E:ElRep α} {Q:Nat->Prop} {w:World} {v:Value} {l:List α} (h:RSl E Q w v l):v.oneCell'=true:=by
 obtain⟨_,⟨a,cap,rfl,_⟩,_⟩:=h;rfl
theorem QyIn.ones {Q:Nat->Prop} {w:World} {e:Qy} {cs:List Value} (h:QyIn Q w e cs):∀u∈cs,u.oneCell'=true:=by
 obtain⟨k,tab,subs,cond,cols,group,aggs,order,n⟩:=e;obtain⟨sa,sacs,xcs,ca,ga,aa,oa,rfl,h1,h2,h3,h4,h5,h6,h7⟩:=h;intro u hu;simp only[List.mem_cons,List.mem_append,List.not_mem_nil,or_false]at hu;rcases hu with rfl|rfl|rfl|hu|rfl|rfl|rfl|rfl|rfl
 all_goals first|rfl|exact Jm h1|exact Zm (by assumption)|exact h3.ones u hu
theorem Ax {Q R:Nat->Prop} {w w':World} (hq:∀b,b<w.heap.size->Q b->R b/\w'.heap[b]?=w.heap[b]?):∀e:Qy,∀cs,QyIn Q w e cs->QyIn R w' e cs:=by
 refine Qy.ind fun k tab subs cond cols group aggs order n ih=>?_;rintro cs ⟨sa,sacs,xcs,ca,ga,aa,oa,rfl,h1,h2,h3,h4,h5,h6,h7⟩;have key:∀(l:List Qy) (acs:List Value),(∀e∈l,∀cs,QyIn Q w e cs->QyIn R w' e cs)->QysIn Q w l acs->QysIn R w' l acs:=by
  intro l
  induction l with
  | nil=>intro acs _ h;exact h
  | cons e l ihl=>
   rintro acs hl ⟨c1,c2,rfl,k1,k2⟩;exact⟨c1,c2,rfl,hl e (by simp) _ k1,ihl _ (fun d hd=>hl d (by simp[hd])) k2⟩
 exact⟨sa,sacs,xcs,ca,ga,aa,oa,rfl,Ll hq (L0 (QysIn.len h2) (by decide)) h1,key subs sacs ih h2,Au hq _ _ h3,Ad (by decide) hq h4,Ad (by decide) hq h5,Ad (by decide) hq h6,Ad (by decide) hq h7⟩
def qyE:ElRep Qy where
 k:=14
 In:=QyIn
 val cs:=.agg cs.toArray
 len h:=h.len
 ones h:=h.ones
 move hq h:=Ax hq _ _ h
theorem Fq {Q:Nat->Prop} {w:World}:∀{l:List Qy} {acs:List Value},QysIn Q w l acs↔LIn qyE Q w l acs
 | [],acs=>by simp only[QysIn,LIn]
 | e::l,acs=>by
  simp only[QysIn,LIn];exact⟨fun⟨c1,c2,h1,h2,h3⟩=>⟨c1,c2,h1,h2,Fq.1 h3⟩,fun⟨c1,c2,h1,h2,h3⟩=>⟨c1,c2,h1,h2,Fq.2 h3⟩⟩
theorem Bl {Q:Nat->Prop} {w:World} {k:Int} {tab:Bytes} {subs:List Qy} {op xn:Int} {v:V} {args cols:List Xp} {group:List Int} {aggs:List Ag} {order:List Od} {n:Int} {cs:List Value}
 (h:QyIn Q w (.mk k tab subs (.mk op xn v args) cols group aggs order n) cs):∃sa sc xa xc ca cc ga gc aa ac oa oc,
  cs=[.int .i64 k,.string ⟨tab.toArray⟩,.slice sa subs.length sc,.int .i64 op,.int .i64 xn,.int .i64 v.k,.int .i64 v.n,.string v.s,.slice xa args.length xc,.slice ca cols.length cc,.slice ga group.length gc,.slice aa aggs.length ac,.slice oa order.length oc,.int .i64 n]/\
  RSl qyE Q w (.slice sa subs.length sc) subs/\RSl xpE Q w (.slice xa args.length xc) args/\RSl xpE Q w (.slice ca cols.length cc) cols/\RSl intE Q w (.slice ga group.length gc) group/\RSl agE Q w (.slice aa aggs.length ac) aggs/\RSl odE Q w (.slice oa order.length oc) order:=by
 obtain⟨sa,sacs,xcs,ca,ga,aa,oa,rfl,h1,h2,h3,h4,h5,h6,h7⟩:=h
 obtain⟨xa,rfl,h3x⟩:=Ai.1 h3
 clear h3
 have h3:=h3x
 have h1':RSl qyE Q w sa subs:=⟨sacs,h1,Fq.1 h2⟩
 obtain⟨sa,sc,rfl⟩:=h1'.slice
 obtain⟨xa,xc,rfl⟩:=h3.slice
 obtain⟨ca,cc,rfl⟩:=h4.slice
 obtain⟨ga,gc,rfl⟩:=h5.slice
 obtain⟨aa,ac,rfl⟩:=h6.slice
 obtain⟨oa,oc,rfl⟩:=h7.slice
 exact⟨sa,sc,xa,xc,ca,cc,ga,gc,aa,ac,oa,oc,rfl,h1',h3,h4,h5,h6,h7⟩
theorem Fs {Q:Nat->Prop} {w:World} {k:Int} {tab:Bytes} {subs:List Qy} {op xn:Int} {v:V} {args cols:List Xp} {group:List Int} {aggs:List Ag} {order:List Od} {n:Int} {sa xa ca ga aa oa:Value}
 (h1:RSl qyE Q w sa subs) (h2:RSl xpE Q w xa args) (h3:RSl xpE Q w ca cols) (h4:RSl intE Q w ga group) (h5:RSl agE Q w aa aggs) (h6:RSl odE Q w oa order):
 QyIn Q w (.mk k tab subs (.mk op xn v args) cols group aggs order n) [.int .i64 k,.string ⟨tab.toArray⟩,sa,.int .i64 op,.int .i64 xn,.int .i64 v.k,.int .i64 v.n,.string v.s,xa,ca,ga,aa,oa,.int .i64 n]:=by
 obtain⟨sacs,k1,k2⟩:=h1
 exact⟨sa,sacs,_,ca,ga,aa,oa,rfl,k1,Fq.2 k2,Ai.2 ⟨xa,rfl,h2⟩,h3,h4,h5,h6⟩
end Go.Proofs.YtjmmbebkbkgefaaGreatDoor
namespace Go.Proofs.YtjmmbebkbkgefaaGreatDoor
open Go.ChangeShapes Go.WideShapes Go.ChangeAt Go.RowKit Go.Proofs.Tryz
section
variable {H:Type} {enc:TypeId×Value->H} {W:World}
theorem Tw (N:Nat):Opens enc W tblE (fun _=>True) 36 N:=fun n cs y _ h hw=>by
 obtain⟨t,p1,p2,p3,rfl,⟨ca,cc,ia,ic,ka,kc,e,hc,_⟩,_⟩:=Xk h hw;simp only[Value.agg.injEq]at e;exact⟨t,trivial,ca,cc,ia,ic,ka,kc,congrArg Array.toList e,hc⟩
theorem Ib {b0:Nat} {v:Value} {d:DataW H} {p:List MemPlace} (hv:Value.okWide prog W .any b0 22 v) (h:DataW.Trod enc prog W 0 (fun _=>true) true 22 v d p) (hw:∀k∈d.weights prog 22,k<=reachBytes):
 ∃l:List Tbl,RSl tblE (fun _=>True) W v l/\l.length<=4611686018427387904:=by
 obtain⟨a0,len,cap,rfl⟩:=okWide_slice underlying22 hv
 obtain⟨fuel,hf⟩:=h
 obtain⟨l,a,c,e,hl,_,hb⟩:=Dr (E:=tblE) underlying22 (by kernel_rfl) (by decide) 88 (by kernel_rfl) (by decide) Tw hf hw
 simp only[Value.cells,List.cons.injEq,and_true]at e
 rw[e]
 exact⟨l,hl,Nat.le_trans hb (by decide)⟩
end
end Go.Proofs.YtjmmbebkbkgefaaGreatDoor
namespace Go.Proofs.YtjmmbebkbkgefaaGreatDoor
open Go.ChangeShapes Go.WideShapes Go.ChangeAt Go.RowKit Go.Proofs.Tryz
theorem Ls (t:TypeId) (h:t∈[22,44]):prog.readableRec t=true/\t<prog.types.size:=by
 have hall:([22,44].all fun t=>prog.readableRec t&&decide (t<prog.types.size))=true:=by kernel_rfl
 have:=List.all_eq_true.1 hall t h;simpa using this
theorem J9 (t:TypeId) (h:t∈[22,44]):prog.wantsStandIn t=false:=by
 have hall:([22,44].all fun t=>!prog.wantsStandIn t)=true:=by kernel_rfl
 simpa using List.all_eq_true.1 hall t h
section
variable {H:Type} {enc:TypeId×Value->H} {W:World}
theorem Ic {b0:Nat} {v:Value} {d:DataW H} {p:List MemPlace} (hv:Value.okWide prog W .any b0 44 v) (h:DataW.Trod enc prog W 0 (fun _=>true) true 44 v d p) (hw:∀k∈d.weights prog 44,k<=reachBytes):
 ∃x:Sel,RSelQ (fun _=>True) W x v/\x.Wf/\x.lists<=4611686018427387904:=by
 simp only[Value.okWide,underlying44]at hv
 obtain⟨cs,rfl,hsz,_⟩:=hv
 obtain⟨fuel,hf0⟩:=h
 obtain⟨cs⟩:=cs
 obtain⟨x,xi,xf,xo,ya,xg,xs,e,hx,hwf,hl⟩:=Xl hf0 hw
 have e2:cs=_:=e
 subst e2
 exact⟨x,hx,hwf,Nat.le_trans hl (by decide)⟩
end
end Go.Proofs.YtjmmbebkbkgefaaGreatDoor
namespace Go.Proofs.YtjmmbebkbkgefaaGreatDoor
open Go.RowKit Go.Sort Go.Proofs.Tryz
theorem L6 (g:Nat) (qb:Nat) (Q:Nat->Prop) (p:Tbl->Bool) (l:List Tbl) (v:Value) (w:World) (hfn:∀args w,(callFunc g args).run prog w=.ok (.enter g args) w) (hv:RSl tblE Q w v l) (hl:l.length<=4611686018427387904)
 (HG:Hid (∀W a cs,Below w.heap.size w W->a∈l->tblE.In Q W a cs->Calls prog g #[tblE.val cs,.pointer (some ⟨qb,0,none⟩)] W (Says (.bool (p a)) W))):
 Calls prog 38 #[v,.func (.func g) #[] #[.pointer (some ⟨qb,0,none⟩)]] w (Says (.int .i64 (idxFrom p 0 l)) w):=by
 obtain⟨a0,cap0,rfl⟩:=hv.slice
 have HV:=Lib.hid hv
 clear hv
 go_enter func38,ntmps38
 go_wp2_with fail
 go_loopw [5,8] (fun _ i wr=>∃k:Nat,k<=l.length/\i=.int .i64 k/\Hid (idxFrom p 0 l=idxFrom p k (l.drop k))/\Hid (Below w.heap.size w wr)) (fun _ i _=>l.length - (intOf i).toNat)
 case atStart=>exact⟨0,by omega,rfl,rfl,Below.refl _ _⟩
 case round=>
  obtain⟨k,hk,rfl,HK,HB⟩:=hrel;by_cases hlt:k<l.length
  ·obtain⟨a,hx⟩:∃x,l[k]?=some x:=⟨l[k],by simp[hlt]⟩;obtain⟨b,o,cap,cs,hbo,hin,hat⟩:=((HV.out.kept (by decide) HB.out)).at hx;injection hbo with e1 _ e2;subst e1;subst e2;have C1:=Lib.hid (HG.out wr a cs HB.out (List.mem_of_getElem? hx) hin);have hst:idxFrom p k (l.drop k)=if p a then(k:Int)else idxFrom p (k+1) (l.drop (k+1)):=by
    obtain⟨h1,rfl⟩:=List.getElem?_eq_some_iff.1 hx;rw[List.drop_eq_getElem_cons h1,idxFrom]
   have HST:Hid (idxFrom p 0 l=_):=HK.out.trans hst;have hin0:=hin;obtain⟨ca,cc,ia,ic,ka,kc,rfl,_⟩:=hin;have x0:=hat 0 _ rfl;have x1:=hat 1 _ rfl;have x2:=hat 2 _ rfl;have x3:=hat 3 _ rfl;simp only[show tblE.k=4 from rfl,Nat.add_zero]at x0 x1 x2 x3;change Hid (Calls prog g #[.agg #[.string ⟨a.name.toArray⟩,.slice ca a.cols.length cc,.slice ia a.indexes.length ic,.slice ka a.checks.length kc],.pointer (some ⟨qb,0,none⟩)] wr (Says (.bool (p a)) wr))at C1;clear hst HK hx hat;by_cases hn:p a=true
   ·have HR:Hid (idxFrom p 0 l=(k:Int)):=by show _=_;rw[HST.out,if_pos hn]
    rw[hn]at C1;clear HST hn;go_wp2_with fail;refine Calls.mono C1.out ?_;rintro e w1 ⟨rfl,hb1⟩;have HB1:=Lib.hid (HB.out.step hb1);clear hb1 x0 x1 x2 x3;go_wp2_with fail;go_returns;exact⟨by rw[HR.out];rfl,HB1.out⟩
   ·have HR:Hid (idxFrom p 0 l=idxFrom p (k+1) (l.drop (k+1))):=by show _=_;rw[HST.out,if_neg hn]
    have hd:p a=false:=by simpa using hn
    rw[hd]at C1;clear HST hn hd;go_wp2_with fail;refine Calls.mono C1.out ?_;rintro e w1 ⟨rfl,hb1⟩;have HB1:=Lib.hid (HB.out.step hb1);clear hb1 x0 x1 x2 x3;go_wp2_with fail;go_roundw
    case rel=>exact⟨k+1,by omega,by go_num,HR.out,HB1.out⟩
    case measure=>simp[intOf];omega
  ·obtain rfl:k=l.length:=by omega
   have HR:Hid (idxFrom p 0 l= -1):=by show _=_;rw[HK.out,List.drop_length];rfl
   clear HK;go_wp2_with fail;go_returns;exact⟨by rw[HR.out];rfl,HB.out⟩
theorem Rf (g:Nat) (Q:Nat->Prop) (p:Ag->Bool) (l:List Ag) (v:Value) (w:World) (hfn:∀args w,(callFunc g args).run prog w=.ok (.enter g args) w) (hv:RSl agE Q w v l) (hl:l.length<=4611686018427387904)
 (HG:Hid (∀W a cs,Below w.heap.size w W->a∈l->agE.In Q W a cs->Calls prog g #[agE.val cs] W (Says (.bool (p a)) W))):
 Calls prog 172 #[v,.func (.func g) #[] #[]] w (Says (.int .i64 (idxFrom p 0 l)) w):=by
 obtain⟨a0,cap0,rfl⟩:=hv.slice
 have HV:=Lib.hid hv
 clear hv
 go_enter func172,ntmps172
 go_wp2_with fail
 go_loopw [5,8] (fun _ i wr=>∃k:Nat,k<=l.length/\i=.int .i64 k/\Hid (idxFrom p 0 l=idxFrom p k (l.drop k))/\Hid (Below w.heap.size w wr)) (fun _ i _=>l.length - (intOf i).toNat)
 case atStart=>exact⟨0,by omega,rfl,rfl,Below.refl _ _⟩
 case round=>
  obtain⟨k,hk,rfl,HK,HB⟩:=hrel;by_cases hlt:k<l.length
  ·obtain⟨a,hx⟩:∃x,l[k]?=some x:=⟨l[k],by simp[hlt]⟩;obtain⟨b,o,cap,cs,hbo,hin,hat⟩:=((HV.out.kept (by decide) HB.out)).at hx;injection hbo with e1 _ e2;subst e1;subst e2;have C1:=Lib.hid (HG.out wr a cs HB.out (List.mem_of_getElem? hx) hin);have hst:idxFrom p k (l.drop k)=if p a then(k:Int)else idxFrom p (k+1) (l.drop (k+1)):=by
    obtain⟨h1,rfl⟩:=List.getElem?_eq_some_iff.1 hx;rw[List.drop_eq_getElem_cons h1,idxFrom]
   have HST:Hid (idxFrom p 0 l=_):=HK.out.trans hst;have hin0:=hin;obtain⟨fn,⟨xop,xn,xv,xargs⟩⟩:=a;obtain⟨c0,rfl,hin1⟩:=hin;obtain⟨v0,rfl,hs0⟩:=Ai.1 hin1;obtain⟨ad,ac,rfl⟩:=hs0.slice;have x0:=hat 0 _ rfl;have x1:=hat 1 _ rfl;have x2:=hat 2 _ rfl;have x3:=hat 3 _ rfl;have x4:=hat 4 _ rfl;have x5:=hat 5 _ rfl;have x6:=hat 6 _ rfl;simp only[show agE.k=7 from rfl,Nat.add_zero]at x0 x1 x2 x3 x4 x5 x6;change Hid (Calls prog g #[.agg #[.int .i64 fn,.int .i64 xop,.int .i64 xn,.int .i64 xv.k,.int .i64 xv.n,.string xv.s,.slice ad xargs.length ac]] wr (Says (.bool (p (Ag.mk fn (.mk xop xn xv xargs)))) wr))at C1;clear hst HK hx hat;by_cases hn:p (Ag.mk fn (.mk xop xn xv xargs))=true
   ·have HR:Hid (idxFrom p 0 l=(k:Int)):=by show _=_;rw[HST.out,if_pos hn]
    rw[hn]at C1;clear HST hn;go_wp2_with fail;refine Calls.mono C1.out ?_;rintro e w1 ⟨rfl,hb1⟩;have HB1:=Lib.hid (HB.out.step hb1);clear hb1 x0 x1 x2 x3 x4 x5 x6;go_wp2_with fail;go_returns;exact⟨by rw[HR.out];rfl,HB1.out⟩
   ·have HR:Hid (idxFrom p 0 l=idxFrom p (k+1) (l.drop (k+1))):=by show _=_;rw[HST.out,if_neg hn]
    have hd:p (Ag.mk fn (.mk xop xn xv xargs))=false:=by simpa using hn
    rw[hd]at C1;clear HST hn hd;go_wp2_with fail;refine Calls.mono C1.out ?_;rintro e w1 ⟨rfl,hb1⟩;have HB1:=Lib.hid (HB.out.step hb1);clear hb1 x0 x1 x2 x3 x4 x5 x6;go_wp2_with fail;go_roundw
    case rel=>exact⟨k+1,by omega,by go_num,HR.out,HB1.out⟩
    case measure=>simp[intOf];omega
  ·obtain rfl:k=l.length:=by omega
   have HR:Hid (idxFrom p 0 l= -1):=by show _=_;rw[HK.out,List.drop_length];rfl
   clear HK;go_wp2_with fail;go_returns;exact⟨by rw[HR.out];rfl,HB.out⟩
theorem Iw (g:Nat) (Q:Nat->Prop) (p:Ag->Bool) (l:List Ag) (v:Value) (w:World) (hfn:∀args w,(callFunc g args).run prog w=.ok (.enter g args) w) (hv:RSl agE Q w v l) (hl:l.length<=4611686018427387904)
 (HG:Hid (∀W a cs,Below w.heap.size w W->a∈l->agE.In Q W a cs->Calls prog g #[agE.val cs] W (Says (.bool (p a)) W))):
 Calls prog 99 #[v,.func (.func g) #[] #[]] w (Says (.bool (l.any p)) w):=by
 have HC:=Lib.hid (Rf g Q p l v w hfn hv hl HG)
 have HD:=Lib.hid (Cs p l 0)
 clear HG hv
 go_enter func99,ntmps99
 go_wp2_with fail
 refine Calls.mono HC.out ?_
 rintro e w1 ⟨rfl,hb1⟩
 go_wp2_with fail
 exact bodyPost_ret (v:=.bool (l.any p)) (by simp[results,results99,go_sem,<- HD.out]) rfl ⟨rfl,hb1⟩
theorem Re (g:Nat) (Q:Nat->Prop) (p:Qy->Bool) (l:List Qy) (v:Value) (w:World) (hfn:∀args w,(callFunc g args).run prog w=.ok (.enter g args) w) (hv:RSl qyE Q w v l) (hl:l.length<=4611686018427387904)
 (HG:Hid (∀W a cs,Below w.heap.size w W->a∈l->qyE.In Q W a cs->Calls prog g #[qyE.val cs] W (Says (.bool (p a)) W))):
 Calls prog 173 #[v,.func (.func g) #[] #[]] w (Says (.int .i64 (idxFrom p 0 l)) w):=by
 obtain⟨a0,cap0,rfl⟩:=hv.slice
 have HV:=Lib.hid hv
 clear hv
 go_enter func173,ntmps173
 go_wp2_with fail
 go_loopw [5,8] (fun _ i wr=>∃k:Nat,k<=l.length/\i=.int .i64 k/\Hid (idxFrom p 0 l=idxFrom p k (l.drop k))/\Hid (Below w.heap.size w wr)) (fun _ i _=>l.length - (intOf i).toNat)
 case atStart=>exact⟨0,by omega,rfl,rfl,Below.refl _ _⟩
 case round=>
  obtain⟨k,hk,rfl,HK,HB⟩:=hrel;by_cases hlt:k<l.length
  ·obtain⟨a,hx⟩:∃x,l[k]?=some x:=⟨l[k],by simp[hlt]⟩;obtain⟨b,o,cap,cs,hbo,hin,hat⟩:=((HV.out.kept (by decide) HB.out)).at hx;injection hbo with e1 _ e2;subst e1;subst e2;have C1:=Lib.hid (HG.out wr a cs HB.out (List.mem_of_getElem? hx) hin);have hst:idxFrom p k (l.drop k)=if p a then(k:Int)else idxFrom p (k+1) (l.drop (k+1)):=by
    obtain⟨h1,rfl⟩:=List.getElem?_eq_some_iff.1 hx;rw[List.drop_eq_getElem_cons h1,idxFrom]
   have HST:Hid (idxFrom p 0 l=_):=HK.out.trans hst;have hin0:=hin;obtain⟨k0,tab,subs,⟨xop,xn,xv,xargs⟩,cols,group,aggs,order,n0⟩:=a;obtain⟨sa,sc,xa,xc,ca,cc,ga,gc,aa,ac,oa,oc,rfl,_⟩:=Bl hin;have x0:=hat 0 _ rfl;have x1:=hat 1 _ rfl;have x2:=hat 2 _ rfl;have x3:=hat 3 _ rfl;have x4:=hat 4 _ rfl;have x5:=hat 5 _ rfl;have x6:=hat 6 _ rfl;have x7:=hat 7 _ rfl;have x8:=hat 8 _ rfl;have x9:=hat 9 _ rfl;have x10:=hat 10 _ rfl;have x11:=hat 11 _ rfl;have x12:=hat 12 _ rfl;have x13:=hat 13 _ rfl;simp only[show qyE.k=14 from rfl,Nat.add_zero]at x0 x1 x2 x3 x4 x5 x6 x7 x8 x9 x10 x11 x12 x13;change Hid (Calls prog g #[.agg #[.int .i64 k0,.string ⟨tab.toArray⟩,.slice sa subs.length sc,.int .i64 xop,.int .i64 xn,.int .i64 xv.k,.int .i64 xv.n,.string xv.s,.slice xa xargs.length xc,.slice ca cols.length cc,.slice ga group.length gc,.slice aa aggs.length ac,.slice oa order.length oc,.int .i64 n0]] wr (Says (.bool (p (.mk k0 tab subs (.mk xop xn xv xargs) cols group aggs order n0))) wr))at C1;clear hst HK hx hat;by_cases hn:p (.mk k0 tab subs (.mk xop xn xv xargs) cols group aggs order n0)=true
   ·have HR:Hid (idxFrom p 0 l=(k:Int)):=by show _=_;rw[HST.out,if_pos hn]
    rw[hn]at C1;clear HST hn;go_wp2_with fail;refine Calls.mono C1.out ?_;rintro e w1 ⟨rfl,hb1⟩;have HB1:=Lib.hid (HB.out.step hb1);clear hb1 x0 x1 x2 x3 x4 x5 x6 x7 x8 x9 x10 x11 x12 x13;go_wp2_with fail;go_returns;exact⟨by rw[HR.out];rfl,HB1.out⟩
   ·have HR:Hid (idxFrom p 0 l=idxFrom p (k+1) (l.drop (k+1))):=by show _=_;rw[HST.out,if_neg hn]
    have hd:p (.mk k0 tab subs (.mk xop xn xv xargs) cols group aggs order n0)=false:=by simpa using hn
    rw[hd]at C1;clear HST hn hd;go_wp2_with fail;refine Calls.mono C1.out ?_;rintro e w1 ⟨rfl,hb1⟩;have HB1:=Lib.hid (HB.out.step hb1);clear hb1 x0 x1 x2 x3 x4 x5 x6 x7 x8 x9 x10 x11 x12 x13;go_wp2_with fail;go_roundw
    case rel=>exact⟨k+1,by omega,by go_num,HR.out,HB1.out⟩
    case measure=>simp[intOf];omega
  ·obtain rfl:k=l.length:=by omega
   have HR:Hid (idxFrom p 0 l= -1):=by show _=_;rw[HK.out,List.drop_length];rfl
   clear HK;go_wp2_with fail;go_returns;exact⟨by rw[HR.out];rfl,HB.out⟩
theorem Iv (g:Nat) (Q:Nat->Prop) (p:Qy->Bool) (l:List Qy) (v:Value) (w:World) (hfn:∀args w,(callFunc g args).run prog w=.ok (.enter g args) w) (hv:RSl qyE Q w v l) (hl:l.length<=4611686018427387904)
 (HG:Hid (∀W a cs,Below w.heap.size w W->a∈l->qyE.In Q W a cs->Calls prog g #[qyE.val cs] W (Says (.bool (p a)) W))):
 Calls prog 100 #[v,.func (.func g) #[] #[]] w (Says (.bool (l.any p)) w):=by
 have HC:=Lib.hid (Re g Q p l v w hfn hv hl HG)
 have HD:=Lib.hid (Cs p l 0)
 clear HG hv
 go_enter func100,ntmps100
 go_wp2_with fail
 refine Calls.mono HC.out ?_
 rintro e w1 ⟨rfl,hb1⟩
 go_wp2_with fail
 exact bodyPost_ret (v:=.bool (l.any p)) (by simp[results,results100,go_sem,<- HD.out]) rfl ⟨rfl,hb1⟩
theorem Rd (g:Nat) (qb:Nat) (Q:Nat->Prop) (p:Od->Bool) (l:List Od) (v:Value) (w:World) (hfn:∀args w,(callFunc g args).run prog w=.ok (.enter g args) w) (hv:RSl odE Q w v l) (hl:l.length<=4611686018427387904)
 (HG:Hid (∀W a cs,Below w.heap.size w W->a∈l->odE.In Q W a cs->Calls prog g #[odE.val cs,.pointer (some ⟨qb,0,none⟩)] W (Says (.bool (p a)) W))):
 Calls prog 175 #[v,.func (.func g) #[] #[.pointer (some ⟨qb,0,none⟩)]] w (Says (.int .i64 (idxFrom p 0 l)) w):=by
 obtain⟨a0,cap0,rfl⟩:=hv.slice
 have HV:=Lib.hid hv
 clear hv
 go_enter func175,ntmps175
 go_wp2_with fail
 go_loopw [5,8] (fun _ i wr=>∃k:Nat,k<=l.length/\i=.int .i64 k/\Hid (idxFrom p 0 l=idxFrom p k (l.drop k))/\Hid (Below w.heap.size w wr)) (fun _ i _=>l.length - (intOf i).toNat)
 case atStart=>exact⟨0,by omega,rfl,rfl,Below.refl _ _⟩
 case round=>
  obtain⟨k,hk,rfl,HK,HB⟩:=hrel;by_cases hlt:k<l.length
  ·obtain⟨a,hx⟩:∃x,l[k]?=some x:=⟨l[k],by simp[hlt]⟩;obtain⟨b,o,cap,cs,hbo,hin,hat⟩:=((HV.out.kept (by decide) HB.out)).at hx;injection hbo with e1 _ e2;subst e1;subst e2;have C1:=Lib.hid (HG.out wr a cs HB.out (List.mem_of_getElem? hx) hin);have hst:idxFrom p k (l.drop k)=if p a then(k:Int)else idxFrom p (k+1) (l.drop (k+1)):=by
    obtain⟨h1,rfl⟩:=List.getElem?_eq_some_iff.1 hx;rw[List.drop_eq_getElem_cons h1,idxFrom]
   have HST:Hid (idxFrom p 0 l=_):=HK.out.trans hst;have h1:cs=[.int .i64 a.col,.bool a.down]:=hin;subst h1;have x0:=hat 0 _ rfl;have x1:=hat 1 _ rfl;simp only[show odE.k=2 from rfl,Nat.add_zero]at x0 x1;change Hid (Calls prog g #[.agg #[.int .i64 a.col,.bool a.down],.pointer (some ⟨qb,0,none⟩)] wr (Says (.bool (p a)) wr))at C1;clear hst HK hx hat;by_cases hn:p a=true
   ·have HR:Hid (idxFrom p 0 l=(k:Int)):=by show _=_;rw[HST.out,if_pos hn]
    rw[hn]at C1;clear HST hn;go_wp2_with fail;refine Calls.mono C1.out ?_;rintro e w1 ⟨rfl,hb1⟩;have HB1:=Lib.hid (HB.out.step hb1);clear hb1 x0 x1;go_wp2_with fail;go_returns;exact⟨by rw[HR.out];rfl,HB1.out⟩
   ·have HR:Hid (idxFrom p 0 l=idxFrom p (k+1) (l.drop (k+1))):=by show _=_;rw[HST.out,if_neg hn]
    have hd:p a=false:=by simpa using hn
    rw[hd]at C1;clear HST hn hd;go_wp2_with fail;refine Calls.mono C1.out ?_;rintro e w1 ⟨rfl,hb1⟩;have HB1:=Lib.hid (HB.out.step hb1);clear hb1 x0 x1;go_wp2_with fail;go_roundw
    case rel=>exact⟨k+1,by omega,by go_num,HR.out,HB1.out⟩
    case measure=>simp[intOf];omega
  ·obtain rfl:k=l.length:=by omega
   have HR:Hid (idxFrom p 0 l= -1):=by show _=_;rw[HK.out,List.drop_length];rfl
   clear HK;go_wp2_with fail;go_returns;exact⟨by rw[HR.out];rfl,HB.out⟩
theorem Iu (g:Nat) (qb:Nat) (Q:Nat->Prop) (p:Od->Bool) (l:List Od) (v:Value) (w:World) (hfn:∀args w,(callFunc g args).run prog w=.ok (.enter g args) w) (hv:RSl odE Q w v l) (hl:l.length<=4611686018427387904)
 (HG:Hid (∀W a cs,Below w.heap.size w W->a∈l->odE.In Q W a cs->Calls prog g #[odE.val cs,.pointer (some ⟨qb,0,none⟩)] W (Says (.bool (p a)) W))):
 Calls prog 107 #[v,.func (.func g) #[] #[.pointer (some ⟨qb,0,none⟩)]] w (Says (.bool (l.any p)) w):=by
 have HC:=Lib.hid (Rd g qb Q p l v w hfn hv hl HG)
 have HD:=Lib.hid (Cs p l 0)
 clear HG hv
 go_enter func107,ntmps107
 go_wp2_with fail
 refine Calls.mono HC.out ?_
 rintro e w1 ⟨rfl,hb1⟩
 go_wp2_with fail
 exact bodyPost_ret (v:=.bool (l.any p)) (by simp[results,results107,go_sem,<- HD.out]) rfl ⟨rfl,hb1⟩
end Go.Proofs.YtjmmbebkbkgefaaGreatDoor
