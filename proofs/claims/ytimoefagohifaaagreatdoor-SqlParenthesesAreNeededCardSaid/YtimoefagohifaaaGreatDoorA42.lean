/- Laws that the last part needs. No condition. -/
import Derived.ChangeArms
import Derived.DataReads
import Derived.DataElems
import Derived.SizedLaws
import Derived.Test.YtimoefagohifaaaGreatDoorA20
import Derived.Test.YtimoefagohifaaaGreatDoorA39
import Derived.Test.YtimoefagohifaaaGreatDoorA41
set_option maxHeartbeats 8000000
set_option maxRecDepth 100000
namespace Go.Proofs.YtimoefagohifaaaGreatDoor
open Go.RowKit Go.Proofs.Tryz
section
open Go.ChangeShapes Go.WideShapes Go.ChangeAt
section
variable {H:Type}
def Opens {α:Type} (enc:TypeId×Value->H) (W:World) (E:ElRep α) (F:α->Prop) (e:TypeId) (N:Nat):Prop:=
 ∀(n:Nat) (cs:List Value) (y:DataW H×List MemPlace),n<N->DataW.trod enc prog W 0 (fun _=>true) true n e cs=some y->(∀k∈y.1.weights prog e,k<=reachBytes)->∃x,F x/\E.In (fun _=>True) W x cs
variable {enc:TypeId×Value->H} {W:World}
theorem ad3 {P:Program} {e:TypeId}:∀{l:List (DataW H)} {d:DataW H},d∈l->∀n∈d.weights P e,n∈DataW.weightsAll P e l
 | c::l,d,hd,n,hn=>by
  unfold DataW.weightsAll;rcases uw.1 hd with rfl|hd
  ·exact List.mem_append_left _ hn
  ·exact List.mem_append_right _ (ad3 hd n hn)
theorem ag0 {w:World} {a:Addr} {v:Value} (h:w.cell? a=some v):a.spot=none:=by
 unfold World.cell? at h;split at h
 ·split at h
  ·cases h
  ·rename_i hs;simpa using hs
 ·cases h
theorem adx {α:Type} {E:ElRep α} {F:α->Prop} {t e:TypeId} {N:Nat} (ht:prog.underlying t=some (.slice e)) (hc:prog.cellsOf e=E.k) (hk:0<E.k) (nb:Nat) (hb:prog.bytesOf e=nb) (hnb:1<=nb) (hel:Opens enc W E F e N) {fuel:Nat} (hN:fuel<=N) {cs:List Value} {y:DataW H×List MemPlace} (h:DataW.trod enc prog W 0 (fun _=>true) true fuel t cs=some y) (hw:∀k∈y.1.weights prog t,k<=reachBytes):∃(v:Value) (l:List α),cs=[v]/\RSl E (fun _=>True) W v l/\(∀x∈l,F x)/\l.length<=reachBytes:=by
 rcases DataW.trod_slice ht h with⟨rfl,_⟩|⟨a,len,cap,elems,rest,n,hf,rfl,rfl,_,hl,_,hlen,hi,_,_⟩
 ·exact⟨_,[],rfl,⟨[],⟨none,0,rfl,tu _,fun h=>absurd h acx⟩,rfl⟩,by simp,yu _⟩
 ·simp only[DataW.weights,ht]at hw;have key:∀q,q<=len->∃(l:List α) (acs:List Value),l.length=q/\LIn E (fun _=>True) W l acs/\(∀x∈l,F x)/\∀j,j<q * E.k->W.cell? (a.add j)=acs[j]?:=by
   intro q
   induction q with
   | zero=>intro _;exact⟨[],[],rfl,rfl,by simp,fun j hj=>acw⟩
   | succ q ih=>
    intro hq;obtain⟨l,acs,hll,hL,hF,hat⟩:=ih acw;have h1:=hi q acw;obtain⟨el,hel1⟩:∃el,elems[q]?=some el:=⟨elems[q]'(by omega),by simp⟩;rw[hel1]at h1;obtain⟨cs',hcs,ht'⟩:=ab9.1 h1;obtain⟨_,hcl,hx2⟩:=World.cells?_some hcs;obtain⟨x,hx,hin⟩:=hel n cs' el acw ht' (fun k hk'=>hw k (zk _ (List.mem_append_left _ (ad3 (zd.2 ⟨el,uq hel1,rfl⟩) k hk'))));have hal:=LIn.len hL;rw[hll]at hal;refine⟨l++[x],acs++cs',by simp[hll],LIn.append hL (LIn.one hin),fun z hz=>?_,fun j hj=>?_⟩
    ·rcases wi.1 hz with hz|hz
     ·exact hF z hz
     ·simp only[vh]at hz;subst hz;exact hx
    ·by_cases hjq:j<q * E.k
     ·rw[ab0 (by rw[hal];exact hjq)];exact hat j hjq
     ·rw[aa2 acw];have h3:=hx2 (j - q * E.k) (by rw[hc];rw[acf]at hj;omega);rw[hc,Addr.add_add,show q * E.k+(j - q * E.k)=j by omega]at h3;rw[h3,hal]
  obtain⟨l,acs,hll,hL,hF,hat⟩:=key len (tu _);have hal:=LIn.len hL;rw[hll]at hal;refine⟨_,l,rfl,⟨acs,⟨some a,cap,by rw[hll],by omega,fun hp=>?_⟩,hL⟩,hF,?_⟩
  ·have hpos:0<len * E.k:=Nat.mul_pos acw hk;have h0:=hat 0 hpos;obtain⟨u,hu⟩:∃u,acs[0]?=some u:=⟨acs[0]'(by omega),by simp⟩;rw[hu]at h0;have hs:=ag0 h0;obtain⟨b,o,s⟩:=a;have hs':s=none:=by simpa[Addr.add]using hs
   subst hs';refine⟨b,o,rfl,trivial,fun j v hv=>?_⟩;have hj:j<acs.length:=(uu.1 hv).1;have h4:=hat j acw;rw[hv]at h4;rw[show(⟨b,o,none⟩:Addr).add j=⟨b,o+j,none⟩from by unfold Addr.add;split<;>simp_all]at h4;exact h4
  ·have h5:=hw _ aba;simp only[zr]at h5;have h6:elems.length<=(elems.length+rest.length) * prog.bytesOf e:=vj (Nat.le_add_right _ _) (Nat.le_mul_of_pos_right _ acw);omega
theorem acr {t:TypeId} {fs:Array Field} {fuel:Nat} {cs:List Value} {y:DataW H×List MemPlace} (ht:prog.underlying t=some (.struct fs)) (h:DataW.trod enc prog W 0 (fun _=>true) true fuel t cs=some y) (hw:∀k∈y.1.weights prog t,k<=reachBytes):∃n,fuel=n+1/\cs.length=prog.cellsOf t/\∀(i:Nat) (ty:TypeId) (off:Nat),fs[i]?.map (fun f=>(f.type,f.offset))=some (ty,off)->∃x,DataW.trod enc prog W 0 (fun _=>true) true n ty ((cs.drop off).take (prog.cellsOf ty))=some x/\∀k∈x.1.weights prog ty,k<=reachBytes:=by
 obtain⟨xs,n,hf,rfl,hlen,hxl,hx⟩:=DataW.trod_struct ht h;refine⟨n,hf,hlen,fun i ty off hi'=>?_⟩;obtain⟨f,hi,he⟩:=aaa.1 hi';simp only[aaf]at he;obtain⟨rfl,rfl⟩:=he;obtain⟨x,hxi⟩:∃x,xs[i]?=some x:=by
  have:i<fs.size:=by
   rcases Nat.lt_or_ge i fs.size with h|h
   ·exact h
   ·rw[Array.getElem?_eq_none h]at hi
    cases hi
  exact⟨xs[i]'(by omega),by simp⟩
 refine⟨x,by rw[hx i f hi,hxi],fun k hk=>hw k ?_⟩;simp only[DataW.weights,ht];exact DataW.weights_mem_each (j:=i) (by simp[hi]) (by simp[hxi]) k hk
theorem acv {fuel:Nat} {cs:List Value} {y:DataW H×List MemPlace} (h:DataW.trod enc prog W 0 (fun _=>true) true fuel 9 cs=some y) (hw:∀k∈y.1.weights prog 9,k<=reachBytes):∃s:Bytes,cs=[.string (Y s)]/\s.length<=reachBytes:=by
 obtain⟨s,rfl,rfl,_⟩:=DataW.trod_string underlying9 h;exact⟨s.data.toList,rfl,hw _ (by simp[DataW.weights])⟩
theorem ac7 {fuel:Nat} {cs:List Value} {y:DataW H×List MemPlace} (h:DataW.trod enc prog W 0 (fun _=>true) true fuel 3 cs=some y):∃n:Int,cs=[U n]/\-9223372036854775808<=n/\n<=9223372036854775807:=by
 obtain⟨n,rfl,_,wf⟩:=DataW.trod_int underlying3 h;exact⟨n,rfl,bounds_i64 wf⟩
theorem aeq {fuel:Nat} {cs:List Value} {y:DataW H×List MemPlace} (h:DataW.trod enc prog W 0 (fun _=>true) true fuel 4 cs=some y):∃b:Bool,cs=[.bool b]:=by
 obtain⟨b,rfl,_⟩:=DataW.trod_bool underlying4 h;exact⟨b,rfl⟩
theorem aed (N:Nat):Opens enc W strE (fun s=>s.length<=reachBytes) 9 N:=fun n cs y _ h hw=>by
 obtain⟨s,e,hs⟩:=acv h hw;exact⟨s,hs,e⟩
theorem agx {c:List Value} (h:c.length=2):∃a b,c=[a,b]:=by
 rcases c with _|⟨a,_|⟨b,_|⟨d,r⟩⟩⟩<;>simp at h
 exact⟨a,b,rfl⟩
theorem ad7 {fuel:Nat} {cs:List Value} {y:DataW H×List MemPlace} (h:DataW.trod enc prog W 0 (fun _=>true) true fuel 42 cs=some y) (hw:∀k∈y.1.weights prog 42,k<=reachBytes):∃v:V,v.Wf/\cs=[U v.k,U v.n,.string v.s]:=by
 obtain⟨n,_,hlen,hf⟩:=acr underlying42 h hw;rw[show prog.cellsOf 42=3 by kernel_rfl]at hlen;obtain⟨c0,c1,c2,rfl⟩:∃c0 c1 c2,cs=[c0,c1,c2]:=pm;obtain⟨x,t,_⟩:=hf 0 3 0 rfl;obtain⟨x,t1,_⟩:=hf 1 3 1 rfl;obtain⟨x,t2,w⟩:=hf 2 9 2 rfl;simp only[show prog.cellsOf 3=1 by kernel_rfl,show prog.cellsOf 9=1 by kernel_rfl,vz,vo,zn,List.take_zero]at t t1 t2;obtain⟨k,e,_⟩:=ac7 t;obtain⟨m,e1,b1,b2⟩:=ac7 t1;obtain⟨s,e2,_⟩:=acv t2 w;simp only[aa7,uo]at e e1 e2;subst e e1 e2;exact⟨⟨k,m,⟨s.toArray⟩⟩,⟨b1,b2⟩,rfl⟩
theorem afq (N:Nat):Opens enc W valE V.Wf 42 N:=fun _n _cs _y _ h hw=>ad7 h hw
theorem afv (N:Nat):Opens enc W rowE (fun r=>(∀v∈r,v.Wf)/\r.length<=reachBytes) 84 N:=fun n cs y hn h hw=>by
 obtain⟨v,l,rfl,hl,hF,hb⟩:=adx (E:=valE) underlying84 acz acy 32 acz acy (afq n) (tu _) h hw;exact⟨l,⟨hF,hb⟩,v,rfl,hl⟩
theorem agp {Q:Nat->Prop} {w:World}:∀{l:List Ex} {acs:List Value},LIn exE Q w l acs->ExsIn Q w l acs
 | [],acs,h=>h
 | e::l,acs,h=>by
  obtain⟨c1,c2,rfl,h1,h2⟩:=h;exact⟨c1,c2,rfl,h1,agp h2⟩
theorem ag8 {Q:Nat->Prop} {w:World} {v:Value} {l:List Ex} (h:RSl exE Q w v l):ExSl Q w v l:=by
 obtain⟨acs,h1,h2⟩:=h;exact⟨acs,h1,agp h2⟩
theorem adi:∀N:Nat,Opens enc W exE Ex.Wf 44 N:=by
 have key:∀n:Nat,∀m:Nat,m<=n->∀(cs:List Value) (y:DataW H×List MemPlace),DataW.trod enc prog W 0 (fun _=>true) true m 44 cs=some y->(∀k∈y.1.weights prog 44,k<=reachBytes)->∃x:Ex,x.Wf/\ExIn (fun _=>True) W x cs:=by
  intro n
  induction n with
  | zero=>
   intro m hm cs y h hw;obtain⟨n,hn,_⟩:=acr underlying44 h hw;omega
  | succ n ih=>
   intro m hm cs y h hw;obtain⟨n',hn,hlen,hf⟩:=acr underlying44 h hw;rw[show prog.cellsOf 44=7 by kernel_rfl]at hlen;obtain⟨c0,c1,c2,c3,c4,c5,c6,rfl⟩:∃c0 c1 c2 c3 c4 c5 c6,cs=[c0,c1,c2,c3,c4,c5,c6]:=by
    rcases cs with _|⟨a,_|⟨b,_|⟨c,_|⟨d,_|⟨e,_|⟨f,_|⟨g,_|⟨i,r⟩⟩⟩⟩⟩⟩⟩⟩<;>simp at hlen
    exact⟨a,b,c,d,e,f,g,rfl⟩
   obtain⟨x0,t,_⟩:=hf 0 3 0 rfl;obtain⟨x1,t1,w⟩:=hf 1 9 1 rfl;obtain⟨x2,t2,w2⟩:=hf 2 9 2 rfl;obtain⟨x3,t3,w3⟩:=hf 3 42 3 rfl;obtain⟨x4,t4,w4⟩:=hf 4 40 6 rfl;simp only[show prog.cellsOf 3=1 by kernel_rfl,show prog.cellsOf 9=1 by kernel_rfl,show prog.cellsOf 42=3 by kernel_rfl,show prog.cellsOf 40=1 by kernel_rfl,vz,vo,zn,List.take_zero]at t t1 t2 t3 t4;obtain⟨op,e0,_⟩:=ac7 t;obtain⟨tb,e1,b1⟩:=acv t1 w;obtain⟨nm,e2,b2⟩:=acv t2 w2;obtain⟨v,hv,e3⟩:=ad7 t3 w3;obtain⟨av,l,e4,hl,hF,_⟩:=adx (E:=exE) (F:=Ex.Wf) (N:=n') underlying40 acz acy 96 acz acy (fun k cs y hk h hw=>ih k acw cs y h hw) (tu _) t4 w4;simp only[aa7,uo]at e0 e1 e2 e3 e4;obtain⟨rfl,rfl,rfl⟩:=e3;subst e0 e1 e2 e4;have hr:reachBytes<=1152921504606846976:=acy;obtain⟨acs,h1,h2⟩:=ag8 hl;exact⟨.mk op tb nm v l,⟨⟨by omega,by omega⟩,hv,exsWf_of hF⟩,_,acs,rfl,h1,h2⟩
 exact fun N n cs y _ h hw=>key n n (tu _) cs y h hw
theorem agc (N:Nat):Opens enc W pkE (fun p=>p.arg.Wf) 132 N:=fun n cs y _ h hw=>by
 obtain⟨n',_,hlen,hf⟩:=acr underlying132 h hw;rw[show prog.cellsOf 132=8 by kernel_rfl]at hlen;obtain⟨c0,r,rfl⟩:∃c0 r,cs=c0::r:=by
  cases cs with
  | nil=>simp at hlen
  | cons a r=>exact⟨a,r,rfl⟩
 obtain⟨x,t,_⟩:=hf 0 3 0 rfl;obtain⟨x,t1,w⟩:=hf 1 44 1 rfl;simp only[show prog.cellsOf 3=1 by kernel_rfl,show prog.cellsOf 44=7 by kernel_rfl,vz,vo,zn,List.take_zero]at t t1;rw[wq (by simp at hlen;omega)]at t1;obtain⟨fn,e0,_⟩:=ac7 t;obtain⟨e,he,hin⟩:=adi (enc:=enc) (W:=W) (n'+1) n' r x acw t1 w;simp only[aa7,uo]at e0;subst e0;exact⟨⟨fn,e⟩,he,r,rfl,hin⟩
theorem aft (N:Nat):Opens enc W srtE (fun _=>True) 162 N:=fun n cs y _ h hw=>by
 obtain⟨n',_,hlen,hf⟩:=acr underlying162 h hw;rw[show prog.cellsOf 162=2 by kernel_rfl]at hlen;obtain⟨c0,c1,rfl⟩:=agx hlen;obtain⟨x0,t0,_⟩:=hf 0 3 0 rfl;obtain⟨x1,t1,_⟩:=hf 1 4 1 rfl;simp only[show prog.cellsOf 3=1 by kernel_rfl,show prog.cellsOf 4=1 by kernel_rfl,vz,vo,zn,List.take_zero]at t0 t1;obtain⟨p,e0,_⟩:=ac7 t0;obtain⟨b,e1⟩:=aeq t1;simp only[aa7,uo]at e0 e1;subst e0 e1;exact⟨⟨p,b⟩,trivial,rfl⟩
theorem aez {fuel:Nat} {cs:List Value} {y:DataW H×List MemPlace} (h:DataW.trod enc prog W 0 (fun _=>true) true fuel 37 cs=some y) (hw:∀k∈y.1.weights prog 37,k<=reachBytes):∃c:Col,cs=c.cells:=by
 obtain⟨n',_,hlen,hf⟩:=acr underlying37 h hw;rw[show prog.cellsOf 37=3 by kernel_rfl]at hlen;obtain⟨c0,c1,c2,rfl⟩:∃c0 c1 c2,cs=[c0,c1,c2]:=pm;obtain⟨x,t,w⟩:=hf 0 9 0 rfl;obtain⟨x,t1,_⟩:=hf 1 3 1 rfl;obtain⟨x,t2,_⟩:=hf 2 4 2 rfl;simp only[show prog.cellsOf 3=1 by kernel_rfl,show prog.cellsOf 9=1 by kernel_rfl,show prog.cellsOf 4=1 by kernel_rfl,vz,vo,zn,List.take_zero]at t t1 t2;obtain⟨s,e,_⟩:=acv t w;obtain⟨k,e1,_⟩:=ac7 t1;obtain⟨b,e2⟩:=aeq t2;simp only[aa7,uo]at e e1 e2;subst e e1 e2;exact⟨⟨s,k,b⟩,rfl⟩
theorem af1 (N:Nat):Opens enc W colE (fun _=>True) 37 N:=fun n cs y _ h hw=>by
 obtain⟨c,e⟩:=aez h hw;exact⟨c,trivial,e⟩
theorem af2 (N:Nat):Opens enc W chkE (fun c=>c.val.Wf) 151 N:=fun n cs y _ h hw=>by
 obtain⟨n',_,hlen,hf⟩:=acr underlying151 h hw;rw[show prog.cellsOf 151=5 by kernel_rfl]at hlen;obtain⟨c0,c1,c2,c3,c4,rfl⟩:∃c0 c1 c2 c3 c4,cs=[c0,c1,c2,c3,c4]:=by
  rcases cs with _|⟨a,_|⟨b,_|⟨c,_|⟨d,_|⟨e,_|⟨f,r⟩⟩⟩⟩⟩⟩<;>simp at hlen
  exact⟨a,b,c,d,e,rfl⟩
 obtain⟨x,t,_⟩:=hf 0 3 0 rfl;obtain⟨x,t1,_⟩:=hf 1 3 1 rfl;obtain⟨x,t2,w⟩:=hf 2 42 2 rfl;simp only[show prog.cellsOf 3=1 by kernel_rfl,show prog.cellsOf 42=3 by kernel_rfl,vz,vo,zn,List.take_zero]at t t1 t2;obtain⟨c,e0,_⟩:=ac7 t;obtain⟨o,e1,_⟩:=ac7 t1;obtain⟨v,hv,e2⟩:=ad7 t2 w;simp only[aa7,uo]at e0 e1 e2;obtain⟨rfl,rfl,rfl⟩:=e2;subst e0 e1;exact⟨⟨c,o,v⟩,hv,rfl⟩
end
theorem adv (t:TypeId) (h:t∈[50,58,60,9]):prog.readableRec t=true/\t<prog.types.size:=by
 have hall:([50,58,60,9].all fun t=>prog.readableRec t&&decide (t<prog.types.size))=true:=acz;have:=vg.1 hall t h;simpa using this
theorem ad9 (t:TypeId) (h:t∈[50,58,60,9]):prog.wantsStandIn t=false:=by
 have hall:([50,58,60,9].all fun t=>!prog.wantsStandIn t)=true:=acz;simpa using vg.1 hall t h
section
variable {H:Type} {enc:TypeId×Value->H} {W:World}
theorem act {cs a:List Value} {o k:Nat} (h:(cs.drop o).take k=a):cs.drop o=a++cs.drop (o+k):=by
 rw[<- h,<- List.drop_drop,aae]
theorem aey {fuel:Nat} {cs:List Value} {y:DataW H×List MemPlace} (h:DataW.trod enc prog W 0 (fun _=>true) true fuel 44 cs=some y) (hw:∀k∈y.1.weights prog 44,k<=reachBytes):∃(e:Ex) (a:Option Addr) (c:Nat),e.Wf/\cs=[U e.op,.string (Y e.table),.string (Y e.name),U e.val.k,U e.val.n,.string e.val.s,.slice a e.args.length c]/\ExSl (fun _=>True) W (.slice a e.args.length c) e.args:=by
 obtain⟨e,he,hin⟩:=adi (enc:=enc) (W:=W) (fuel+1) fuel cs y acw h hw;obtain⟨op,t,n,v,args⟩:=e;obtain⟨a,acs,rfl,h1,h2⟩:=hin;obtain⟨ad,cap,rfl,h3⟩:=h1;exact⟨.mk op t n v args,ad,cap,he,rfl,acs,⟨ad,cap,rfl,h3⟩,h2⟩
theorem acu {α:Type} {E:ElRep α} {F:α->Prop} {t e:TypeId} (ht:prog.underlying t=some (.slice e)) (hc:prog.cellsOf e=E.k) (hk:0<E.k) (nb:Nat) (hb:prog.bytesOf e=nb) (hnb:1<=nb) (hel:∀N,Opens enc W E F e N) {fuel:Nat} {cs:List Value} {y:DataW H×List MemPlace} (h:DataW.trod enc prog W 0 (fun _=>true) true fuel t cs=some y) (hw:∀k∈y.1.weights prog t,k<=reachBytes):∃(l:List α) (a:Option Addr) (c:Nat),cs=[.slice a l.length c]/\RSl E (fun _=>True) W (.slice a l.length c) l/\(∀x∈l,F x)/\l.length<=reachBytes:=by
 obtain⟨v,l,rfl,hl,hF,hb⟩:=adx ht hc hk nb hb hnb (hel fuel) (tu _) h hw;obtain⟨a,c,rfl⟩:=hl.slice;exact⟨l,a,c,rfl,hl,hF,hb⟩
theorem agi {t e:TypeId} (ht:prog.underlying t=some (.slice e)) (nb:Nat) (hb:prog.bytesOf e=nb) (hnb:1<=nb) {fuel:Nat} {cs:List Value} {y:DataW H×List MemPlace} (h:DataW.trod enc prog W 0 (fun _=>true) true fuel t cs=some y) (hw:∀k∈y.1.weights prog t,k<=reachBytes):∃(a:Option Addr) (n c:Nat),cs=[.slice a n c]/\n<=reachBytes:=by
 rcases DataW.trod_slice ht h with⟨rfl,_⟩|⟨a,len,cap,elems,rest,n,hf,rfl,rfl,_,hl,_,hlen,_,_,_⟩
 ·exact⟨none,0,0,rfl,yu _⟩
 ·simp only[DataW.weights,ht]at hw;have h5:=hw _ aba;simp only[zr]at h5;have h6:elems.length<=(elems.length+rest.length) * prog.bytesOf e:=vj (Nat.le_add_right _ _) (Nat.le_mul_of_pos_right _ acw);exact⟨some a,len,cap,rfl,by omega⟩
theorem agf {fuel:Nat} {cs:List Value} {y:DataW H×List MemPlace} (h:DataW.trod enc prog W 0 (fun _=>true) true fuel 35 cs=some y) (hw:∀k∈y.1.weights prog 35,k<=reachBytes):∃(t:Tbl) (p1 p2 p3:SlP),cs=[.string (Y t.name),sl p1,sl p2,sl p3]/\RTblI (fun _=>True) W t (.agg #[.string (Y t.name),sl p1,sl p2,sl p3])/\(∀c∈t.checks,c.val.Wf)/\t.cols.length+t.indexes.length+t.checks.length<=3 * reachBytes/\t.name.length<=reachBytes:=by
 obtain⟨n',_,hlen,hf⟩:=acr underlying35 h hw;rw[show prog.cellsOf 35=4 by kernel_rfl]at hlen;obtain⟨c0,c1,c2,c3,rfl⟩:∃c0 c1 c2 c3,cs=[c0,c1,c2,c3]:=by
  rcases cs with _|⟨a,_|⟨b,_|⟨c,_|⟨d,_|⟨e,r⟩⟩⟩⟩⟩<;>simp at hlen
  exact⟨a,b,c,d,rfl⟩
 obtain⟨x,t0,w⟩:=hf 0 9 0 rfl;obtain⟨x,t1,w1⟩:=hf 1 31 1 rfl;obtain⟨x,t2,w2⟩:=hf 2 32 2 rfl;obtain⟨x,t3,w3⟩:=hf 3 33 3 rfl;simp only[show prog.cellsOf 9=1 by kernel_rfl,show prog.cellsOf 31=1 by kernel_rfl,show prog.cellsOf 32=1 by kernel_rfl,show prog.cellsOf 33=1 by kernel_rfl,vz,vo,zn,List.take_zero]at t0 t1 t2 t3;obtain⟨s,e0,b0⟩:=acv t0 w;obtain⟨cl,ca,cc,e1,hcl,_,b1⟩:=acu (E:=colE) underlying31 acz acy 32 acz acy af1 t1 w1;obtain⟨ia,n,ic,e2,b2⟩:=agi underlying32 48 acz acy t2 w2;obtain⟨kl,ka,kc,e3,hkl,hF,b3⟩:=acu (E:=chkE) underlying33 acz acy 48 acz acy af2 t3 w3;simp only[aa7,uo]at e0 e1 e2 e3;subst e0 e1 e2 e3;refine⟨⟨s,cl,List.replicate n ⟨[],[],false⟩,kl⟩,(ca,cl.length,cc),(ia,n,ic),(ka,kl.length,kc),rfl,⟨ca,cc,ia,ic,ka,kc,by simp[sl],hcl,hkl⟩,hF,?_,b0⟩;simp only[List.length_replicate];omega
theorem agh {fuel:Nat} {cs:List Value} {y:DataW H×List MemPlace} (h:DataW.trod enc prog W 0 (fun _=>true) true fuel 48 cs=some y) (hw:∀k∈y.1.weights prog 48,k<=reachBytes):
 ∃(x:Sel) (xi xf xo ya xg xs:SlP),cs=[.bool x.distinct,sl xi,sl xf,sl xo,U x.where_.op,.string (Y x.where_.table),.string (Y x.where_.name),U x.where_.val.k,U x.where_.val.n,.string x.where_.val.s,sl ya,sl xg,sl xs,U x.limit]/\
  RSelQ (fun _=>True) W x (.agg #[.bool x.distinct,sl xi,sl xf,sl xo,U x.where_.op,.string (Y x.where_.table),.string (Y x.where_.name),U x.where_.val.k,U x.where_.val.n,.string x.where_.val.s,sl ya,sl xg,sl xs,U x.limit])/\x.Wf/\x.lists<=5 * reachBytes:=by
 obtain⟨n',_,hlen,hf⟩:=acr underlying48 h hw
 rw[show prog.cellsOf 48=14 by kernel_rfl]at hlen
 obtain⟨x0,t,_⟩:=hf 0 4 0 rfl
 obtain⟨x1,t1,w⟩:=hf 1 45 1 rfl
 obtain⟨x2,t2,w2⟩:=hf 2 38 2 rfl
 obtain⟨x3,t3,w3⟩:=hf 3 40 3 rfl
 obtain⟨x4,t4,w4⟩:=hf 4 44 4 rfl
 obtain⟨x5,t5,w5⟩:=hf 5 40 11 rfl
 obtain⟨x6,t6,w6⟩:=hf 6 46 12 rfl
 obtain⟨x7,t7,_⟩:=hf 7 3 13 rfl
 obtain⟨d,e⟩:=aeq t
 obtain⟨il,ia,ic,e1,hil,fi,b⟩:=acu (E:=pkE) underlying45 acz acy 104 acz acy agc t1 w
 obtain⟨fl,fa,fc,e2,hfl,_,b⟩:=acu (E:=strE) underlying38 acz acy 16 acz acy aed t2 w2
 obtain⟨ol,oa,oc,e3,hol,fo,b⟩:=acu (E:=exE) underlying40 acz acy 96 acz acy adi t3 w3
 obtain⟨wh,wa,wc,fw,e4,hwh⟩:=aey t4 w4
 obtain⟨gl,ga,gc,e5,hgl,fg,b⟩:=acu (E:=exE) underlying40 acz acy 96 acz acy adi t5 w5
 obtain⟨ql,qa,qc,e6,hql,_,b⟩:=acu (E:=srtE) underlying46 acz acy 16 acz acy aft t6 w6
 obtain⟨lm,e7,_⟩:=ac7 t7
 simp only[show prog.cellsOf 4=1 by kernel_rfl,show prog.cellsOf 45=1 by kernel_rfl,show prog.cellsOf 38=1 by kernel_rfl,show prog.cellsOf 40=1 by kernel_rfl,show prog.cellsOf 44=7 by kernel_rfl,show prog.cellsOf 46=1 by kernel_rfl,show prog.cellsOf 3=1 by kernel_rfl]at e e1 e2 e3 e4 e5 e6 e7
 have hcs:cs=_:=(vz).symm.trans (act e)
 rw[xr,act e1,act e2,act e3,act e4,act e5,act e6,act e7,List.drop_eq_nil_of_le acw]at hcs
 refine⟨⟨d,il,fl,ol,wh,gl,ql,lm⟩,(ia,il.length,ic),(fa,fl.length,fc),(oa,ol.length,oc),(wa,wh.args.length,wc),(ga,gl.length,gc),(qa,ql.length,qc),hcs,⟨ia,ic,fa,fc,oa,oc,wa,wc,ga,gc,qa,qc,rfl,hil,hfl,hol,hwh,hgl,hql⟩,⟨fi,fo,fw,fg⟩,?_⟩
 unfold Sel.lists
 simp only
 omega
theorem adw {b0:Nat} {v:Value} {d:DataW H} {p:List MemPlace} (hv:Value.okWide prog W .any b0 50 v) (h:DataW.Trod enc prog W 0 (fun _=>true) true 50 v d p) (hw:∀k∈d.weights prog 50,k<=reachBytes):∃(s:SV) (x:Stm),v=.agg s.arr/\StmIn (fun _=>True) W s x/\x.Wf/\x.lists<=4611686018427387904/\x.txt<=4611686018427387904:=by
 simp only[Value.okWide,underlying50]at hv;obtain⟨cs,rfl,hsz,_⟩:=hv;obtain⟨fuel,hf0⟩:=h;obtain⟨cs⟩:=cs;obtain⟨n',_,hlen,hf⟩:=acr underlying50 hf0 hw;rw[show prog.cellsOf 50=36 by kernel_rfl]at hlen;obtain⟨x0,t,_⟩:=hf 0 3 0 rfl;obtain⟨x1,t1,w⟩:=hf 1 9 1 rfl;obtain⟨x2,t2,w2⟩:=hf 2 9 2 rfl;obtain⟨x3,t3,w3⟩:=hf 3 35 3 rfl;obtain⟨x4,t4,w4⟩:=hf 4 37 7 rfl;obtain⟨x5,t5,w5⟩:=hf 5 38 10 rfl;obtain⟨x6,t6,_⟩:=hf 6 4 11 rfl;obtain⟨x7,t7,w7⟩:=hf 7 39 12 rfl;obtain⟨x8,t8,w8⟩:=hf 8 40 13 rfl;obtain⟨x9,t9,w9⟩:=hf 9 44 14 rfl;obtain⟨xa,ta,wa⟩:=hf 10 48 21 rfl;obtain⟨xb,tb,_⟩:=hf 11 3 35 rfl;obtain⟨k,e,_⟩:=ac7 t;obtain⟨tbl,e1,b⟩:=acv t1 w;obtain⟨nm,e2,b⟩:=acv t2 w2;obtain⟨sc,p1,p2,p3,e3,hsc,fsc,bsc,bsn⟩:=agf t3 w3;obtain⟨co,e4⟩:=aez t4 w4;obtain⟨nl,na,nc,e5,hnl,_,b⟩:=acu (E:=strE) underlying38 acz acy 16 acz acy aed t5 w5;obtain⟨un,e6⟩:=aeq t6;obtain⟨rl,ra,rc,e7,hrl,fr,b⟩:=acu (E:=rowE) underlying39 acz acy 24 acz acy afv t7 w7;obtain⟨el,ea,ec,e8,hel,fe,b⟩:=acu (E:=exE) underlying40 acz acy 96 acz acy adi t8 w8;obtain⟨wh,wha,whc,fw,e9,hwh⟩:=aey t9 w9;obtain⟨se,xi,xf,xo,ya,xg,xs,ea',hse,fse,bse⟩:=agh ta wa;obtain⟨md,eb,_⟩:=ac7 tb;simp only[Value.cells,show prog.cellsOf 3=1 by kernel_rfl,show prog.cellsOf 9=1 by kernel_rfl,show prog.cellsOf 35=4 by kernel_rfl,show prog.cellsOf 37=3 by kernel_rfl,show prog.cellsOf 38=1 by kernel_rfl,show prog.cellsOf 4=1 by kernel_rfl,show prog.cellsOf 39=1 by kernel_rfl,
  show prog.cellsOf 40=1 by kernel_rfl,show prog.cellsOf 44=7 by kernel_rfl,show prog.cellsOf 48=14 by kernel_rfl]at hlen e e1 e2 e3 e4 e5 e6 e7 e8 e9 ea' eb
 have hcs:cs=_:=(vz).symm.trans (act e);rw[xr,act e1,act e2,act e3,act e4,act e5,act e6,act e7,act e8,act e9,act ea',act eb,List.drop_eq_nil_of_le acw]at hcs;refine⟨⟨k,tbl,nm,sc.name,p1,p2,p3,co.name,co.kind,co.null,(na,nl.length,nc),un,(ra,rl.length,rc),(ea,el.length,ec),wh.op,wh.table,wh.name,wh.val,(wha,wh.args.length,whc),se.distinct,xi,xf,xo,se.where_.op,se.where_.table,se.where_.name,se.where_.val,ya,xg,xs,se.limit,md⟩,
  ⟨k,tbl,nm,sc,co,nl,un,rl,el,wh,se,md⟩,by rw[hcs];rfl,⟨rfl,rfl,rfl,hsc,rfl,hnl,rfl,hrl,hel,⟨rfl,rfl,rfl,rfl,hwh⟩,hse,rfl⟩,⟨fsc,fun r hr=>(fr r hr).1,fe,fw,fse⟩,?_,?_⟩
 ·have hr:reachBytes<=140737488355328:=acy;unfold Stm.lists;simp only;omega
 ·have hr:reachBytes<=140737488355328:=acy;unfold Stm.txt;simp only;omega
end
end
section
open Go.Sort
theorem aet (Q:Nat->Prop) (x:Stm) (s:SV) (w:World) (h:StmIn Q w s x) (hl:x.lists<=4611686018427387904):Calls prog 12 #[.agg s.arr] w (fun e w'=>∃b,e=.returned (.bool b)/\Below w.heap.size w w'):=by
 have hln:(x.rows.length:Int)<=4611686018427387904:=by unfold Stm.lists at hl;omega
 have HR:=tm h.rs;have hrl:s.rs.2.1=x.rows.length:=G6 h.rs;have S:Hid (St w (w.alloc (.cells s.arr 50)) [(w.heap.size,s.arr,50)]):=St.alloc (St.start w);clear h hl;go_enter func12,ntmps12;go_upto_region 1 with fail;refine St.gen S.out ?_;clear S;intro w1 S;obtain⟨c,cf,cl⟩:=Aa (o:=10) (S.out.blk 0 rfl) (show s.arr[10]?=some (.slice s.ns.1 s.ns.2.1 s.ns.2.2)from rfl);obtain⟨c1,c1f,c1l⟩:=Aa (o:=12) (S.out.blk 0 rfl) (show s.arr[12]?=some (.slice s.rs.1 s.rs.2.1 s.rs.2.2)from rfl);obtain⟨c2,c2f,c2l⟩:=Aa (o:=13) (S.out.blk 0 rfl) (show s.arr[13]?=some (.slice s.es.1 s.es.2.1 s.es.2.2)from rfl);obtain⟨c3,c3f,c3l⟩:=Aa (o:=4) (S.out.blk 0 rfl) (show s.arr[4]?=some (.slice s.s1.1 s.s1.2.1 s.s1.2.2)from rfl);obtain⟨c4,c4f,c4l⟩:=Aa (o:=6) (S.out.blk 0 rfl) (show s.arr[6]?=some (.slice s.s3.1 s.s3.2.1 s.s3.2.2)from rfl);obtain⟨c5,c5f,c5l⟩:=Aa (o:=22) (S.out.blk 0 rfl) (show s.arr[22]?=some (.slice s.xi.1 s.xi.2.1 s.xi.2.2)from rfl);obtain⟨c6,c6f,c6l⟩:=Aa (o:=23) (S.out.blk 0 rfl) (show s.arr[23]?=some (.slice s.xf.1 s.xf.2.1 s.xf.2.2)from rfl);obtain⟨c7,c7f,c7l⟩:=Aa (o:=24) (S.out.blk 0 rfl) (show s.arr[24]?=some (.slice s.xo.1 s.xo.2.1 s.xo.2.2)from rfl);obtain⟨c8,c8f,c8l⟩:=Aa (o:=32) (S.out.blk 0 rfl) (show s.arr[32]?=some (.slice s.xg.1 s.xg.2.1 s.xg.2.2)from rfl);obtain⟨c9,c9f,c9l⟩:=Aa (o:=33) (S.out.blk 0 rfl) (show s.arr[33]?=some (.slice s.xs.1 s.xs.2.1 s.xs.2.2)from rfl);go_upto_region 2 with fail
 clear c cf cl c1 c1f c1l c2 c2f c2l c3 c3f c3l c4 c4f c4l c5 c5f c5l c6 c6f c6l c7 c7f c7l c8 c8f c8l c9 c9f c9l;go_wp2_with fail;go_loopw [3,4] (fun n i wr=>∃(m:Int) (k:Nat),k<=x.rows.length/\n=U m/\i=U k/\Hid (St w wr [(w.heap.size,s.arr,50)])) (fun _ i _=>x.rows.length - (intOf i).toNat)
 case atStart=>exact⟨_,0,yu _,rfl,rfl,S.out⟩
 case round=>
  clear S;obtain⟨m,k,hk,rfl,rfl,S⟩:=hrel;obtain⟨d,df,dl⟩:=Aa (o:=12) (S.out.blk 0 rfl) (show s.arr[12]?=some (.slice s.rs.1 s.rs.2.1 s.rs.2.2)from rfl);rw[hrl]at d;by_cases hlt:k<x.rows.length
  ·obtain⟨r,hr⟩:∃r,x.rows[k]?=some r:=⟨x.rows[k],by simp[hlt]⟩;obtain⟨b,o,cp,cs,hb,hc,hat⟩:=(HR.out.kept acy S.out.below).at hr;obtain⟨v,rfl,hv⟩:=hc;obtain⟨ra,rc,rfl⟩:=hv.slice;have e1:s.rs.1=some ⟨b,o,none⟩:=by unfold sl at hb;injection hb
   rw[e1]at d;have x0:=hat 0 _ rfl;simp only[show rowE.k=1 from rfl,aac,u0]at x0;have hki:(k:Int)<(x.rows.length:Int):=acw;clear hr hat hv hb e1;go_wp2_with fail;go_roundw
   case rel=>exact⟨_,k+1,by omega,rfl,by go_num,S.out⟩
   case measure=>simp[intOf];omega
  ·obtain rfl:k=x.rows.length:=acw;go_wp2_with fail;go_returns;exact⟨_,rfl,S.out.below⟩
end
end Go.Proofs.YtimoefagohifaaaGreatDoor
