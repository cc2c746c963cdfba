/- Part 2; the last part says what is proved. No condition. -/
import Derived.Deep.Quiet
import Derived.StillTail
import Derived.Lib.QuietBelow
import Derived.WalkKit
import Derived.Handy
import Derived.ProofKit
import Derived.OpenShut
import Derived.Carry
import Derived.Lib.Hide
set_option linter.unusedVariables false
set_option linter.unusedSimpArgs false
namespace Go
open Go.Sort Go.RowKit
section
variable {P:Program} {ops:Array Oper} {md:Region.Mode} {C:World->Prop}
theorem am {c:Code} {Q:Exit->Act->World->Prop} {a:Act} {w:World} (F:World->Prop) (h0:F w) (h:∀W,F W->Code.wp P c Q a W):Code.wp P c Q a w:=h w h0
theorem Ed {l:List Oper} {Q:Exit->Act->World->Prop} {a:Act} {w:World} (F:World->Prop) (h0:F w) (h:∀W,F W->wpList P ops Q l a W):wpList P ops Q l a w:=h w h0
theorem RowKit.Below.drewN (B:Nat) (w:World) (n:Nat):Below B w (w.drewN n):=⟨rfl,rfl,rfl,Nat.le_refl _,fun _ _=>rfl⟩
theorem RowKit.Below.cell_some {B:Nat} {w w':World} (h:Below B w w') {b o:Nat} {v:Value} (hb:b<B) (hv:w.cell? ⟨b,o,none⟩=some v):w'.cell? ⟨b,o,none⟩=some v:=by
 rw[h.cell (p:=⟨b,o,none⟩) hb];exact hv
theorem RowKit.Below.cell_kept {w w':World} (h:Below w.heap.size w w') {a:Addr} {v:Value} (hv:w.cell? a=some v):w'.cell? a=some v:=by
 rw[h.cell (block_lt_of_cell hv)];exact hv
theorem RowKit.Below.step {a b c:World} (h:Below a.heap.size a b) (k:Below b.heap.size b c):Below a.heap.size a c:=h.trans (k.mono h.size)
theorem RowKit.Below.then {B:Nat} {a b c:World} (h:Below B a b) (k:Below b.heap.size b c) (hB:B<=b.heap.size):Below B a c:=h.trans (k.mono hB)
end
end Go
namespace Go
open Go.Sort Go.RowKit
theorem Bz {P:Program} {ops:Array Oper} {rest:List Oper} {o:Oper} {a:Act} {Q:Exit->Act->World->Prop} {W:World} (hgd:o.guard=none) (s x:Operand) (t:TypeId)
 (ho:o.op=.call {callee:=.builtin .append,args:=#[s,x],argTypes:=#[t,t]})
 (e:TypeId) (z:Value) (bytes:Nat) (ht:P.underlying t=some (.slice e)) (hinfo:(P.info? e).map (fun i=>(i.zero,i.size,i.bytes))=some (some z,1,bytes)) (hzs:z.cells.size=1)
 (base:Nat) (v:Value) (n:Nat) (xs:List Value) (hs:a.eval s=v) (hown:W.ownsRow base e 1 v n xs)
 (cs:Array Value) (nb:Nat) (hx:a.eval x=.slice (some ⟨nb,0,none⟩) cs.size cs.size) (hnb:W.heap.size=nb) (h1:∀u∈cs.toList,u.oneCell'=true)
 (hbytes:(n+cs.size) * bytes<=140737488355328) (h63:n+cs.size<=maxLen) (hbase:base<=W.heap.size)
 (h:∀v' w',w'.ownsRow base e 1 v' (n+cs.size) (xs++cs.toList)->W.grownBy w' v.ownBlock->wpList P ops Q rest (a.put o.dst v') w'):wpList P ops Q (o::rest) a (W.alloc (.cells cs e)):=by
 subst hnb
 obtain⟨i0,hi,hz0,hz1,hz2⟩:=info_parts hinfo
 refine wpList_append_own _ hgd s x t ho base e i0 z 1 bytes ht hi hz0 hz1 hz2 hzs (by decide) v n xs hs (hown.alloc _) ⟨W.heap.size,0,none⟩ cs.size cs.size cs.toList hx (by simp) ?_ h1 h63 hbytes (by simp;omega) ?_
 ·intro j u hu;have e1:(⟨W.heap.size,0,none⟩:Addr).add j=⟨W.heap.size,j,none⟩:=by unfold Addr.add;split<;>simp_all
  rw[e1,World.cell?_alloc_at _ _ _ _ rfl];simpa using hu
 ·intro v' w' h2 h3 _;refine h v' w' h2 ?_;exact⟨h3.os,h3.tape,h3.output,by have:=h3.size;simp at this;omega,fun k hk hne=>by
   rw[h3.block k (by simp;omega) hne,Below.heap_alloc _ _ _ hk]⟩
theorem Gz {P:Program} {ops:Array Oper} {rest:List Oper} {o:Oper} {a:Act} {Q:Exit->Act->World->Prop} {W:World} (hgd:o.guard=none) (s x:Operand) (t:TypeId)
 (ho:o.op=.call {callee:=.builtin .append,args:=#[s,x],argTypes:=#[t,t]})
 (e:TypeId) (z:Value) (bytes:Nat) (ht:P.underlying t=some (.slice e)) (hinfo:(P.info? e).map (fun i=>(i.zero,i.size,i.bytes))=some (some z,1,bytes)) (hzs:z.cells.size=1)
 (base:Nat) (v:Value) (n:Nat) (xs:List Value) (hs:a.eval s=v) (hown:W.ownsRow base e 1 v n xs)
 (cs:Array Value) (nb:Nat) (te:TypeId) (fr:Nat×Nat) (hx:a.eval x=.slice (some ⟨nb,0,none⟩) cs.size cs.size) (hblk:W.heap[nb]?=some (.cells cs te fr)) (h1:∀u∈cs.toList,u.oneCell'=true)
 (hbytes:(n+cs.size) * bytes<=140737488355328) (h63:n+cs.size<=maxLen) (hbase:base<=W.heap.size)
 (h:∀v' w',w'.ownsRow base e 1 v' (n+cs.size) (xs++cs.toList)->W.grownBy w' v.ownBlock->wpList P ops Q rest (a.put o.dst v') w'):wpList P ops Q (o::rest) a W:=by
 obtain⟨i0,hi,hz0,hz1,hz2⟩:=info_parts hinfo
 refine wpList_append_own _ hgd s x t ho base e i0 z 1 bytes ht hi hz0 hz1 hz2 hzs (by decide) v n xs hs hown ⟨nb,0,none⟩ cs.size cs.size cs.toList hx (by simp) ?_ h1 h63 hbytes hbase ?_
 ·intro j u hu;have e1:(⟨nb,0,none⟩:Addr).add j=⟨nb,j,none⟩:=by unfold Addr.add;split<;>simp_all
  rw[e1];simp only[World.cell?,hblk];simpa using hu
 ·intro v' w' h2 h3 _;exact h v' w' h2 h3
theorem RowKit.Below.blk {B:Nat} {w w':World} (h:Below B w w') {b:Nat} {o:Obj} (hb:b<B) (hv:w.heap[b]?=some o):w'.heap[b]?=some o:=by rw[h.block b hb];exact hv
theorem RowKit.Below.blk_kept {w w':World} (h:Below w.heap.size w w') {b:Nat} {o:Obj} (hv:w.heap[b]?=some o):w'.heap[b]?=some o:=by rw[h.block b (Array.getElem?_eq_some_iff.1 hv).1];exact hv
theorem Nc (w:World) (o:Obj):(w.alloc o).heap[w.heap.size]?=some o:=by show(w.heap.push _)[w.heap.size]?=_;simp
end Go
namespace Go
open Go.Sort Go.RowKit
section
variable {P:Program} {ops:Array Oper} {md:Region.Mode} {w0:World} {Q:Exit->Act->World->Prop}
def Laid (w w':World):Prop:=Below w.heap.size w w'
def Oper.mildUpon (P:Program) (w:World) (v:Value):Result Next->Prop
 | .ok (.value u) w'=>w'=w/\u=v
 | .ok .skip w'=>w'=w/\v=undef
 | .ok (.enter f args) w'=>w'=w/\Calls P f args w (fun e w''=>e=.returned v/\Laid w w'')
 | _=>False
def Oper.mildAt (P:Program) (o:Oper) (a:Act) (w:World) (v:Value):Prop:=Oper.mildUpon P w v ((execOp a.eval o).run P w)
def Oper.mild (P:Program) (o:Oper) (a:Act) (w0:World) (next:Act->Prop):Prop:=∃v,(∀w,(∃p:Regrown,w=grow (redrawn w0 p.d) p.os)->o.mildAt P a w v)/\next (a.put o.dst v)
def calm (Q:Exit->Act->World->Prop):Exit->Act->World->Prop:=fun e a w=>e=.outgrown/\Q .outgrown a w
theorem Tg (Q:Exit->Act->World->Prop) (e:Exit) (a:Act) (w:World) (h:calm Q e a w):Q e a w:=by obtain⟨rfl,h⟩:=h;exact h
theorem LetsOut.of_calm (h:LetsOut (calm Q)):LetsOut Q:=by obtain⟨a,w,h⟩:=h;exact⟨a,w,h.2⟩
theorem Oper.wp_calm {o:Oper} {a:Act} {w:World} {K K':Act->World->Prop} (h:∀a w,K a w->K' a w) (hh:o.wp P a w K (calm Q)):o.wp P a w K' Q:=by
 unfold Oper.wp at *;generalize (execOp a.eval o).run P w=r at *
 cases r with
 | ok n w'=>
  cases n<;>simp only[Oper.upon]at hh ⊢<;>
   first
    | exact h _ _ hh
    | exact Calls.mono hh (fun e w'' he=>by cases e<;>first|exact h _ _ he|exact Tg _ _ _ _ he|exact LetsOut.of_calm he)
    | exact Rows.mono hh (fun _ _ he=>h _ _ he)
 | halt x w'=>cases x<;>simp only[Oper.upon]at hh ⊢<;>first|exact Tg _ _ _ _ hh|exact hh
def mOp (P:Program) (ops:Array Oper) (w0:World) (Q:Exit->Act->World->Prop) (i:Nat) (K:Act->World->Prop) (a:Act) (wc:World):Prop:=
 match ops[i]? with
 | none=>False
 | some o=>if Region.wanted o (yielded ops a.tmps)then(o.mild P a w0 (fun a'=>K a' wc))\/(∀w,Below wc.heap.size wc w->Below w0.heap.size w0 w->(o.wp P a w (fun a' w'=>Below w0.heap.size w0 w'/\K a' w') (calm Q)\/(o.asks P a w/\LetsOut Q)))else K (a.put o.dst undef) wc
theorem Xv {i:Nat} {a:Act} {wc:World} {K K':Act->World->Prop} (h:∀a w,K a w->K' a w) (hh:mOp P ops w0 Q i K a wc):mOp P ops w0 Q i K' a wc:=by
 unfold mOp at *;split
 ·simp_all
 ·rename_i o ho;simp only[ho]at hh;split
  ·rename_i hw;simp only[hw,if_true]at hh;rcases hh with⟨v,h1,h2⟩|hh
   ·exact .inl ⟨v,h1,h _ _ h2⟩
   ·exact .inr fun w h1 h2=>(hh w h1 h2).imp (Oper.wp_mono fun a w h3=>⟨h3.1,h _ _ h3.2⟩) id
  ·rename_i hw;simp only[hw]at hh;exact h _ _ hh
theorem Nh {i:Nat} {a:Act} {wc w:World} {K K':Act->World->Prop} (h1:Below wc.heap.size wc w) (h2:Below w0.heap.size w0 w)
 (h:∀a wc' w',Below wc'.heap.size wc' w'->Below w0.heap.size w0 w'->K a wc'->K' a w') (hh:mOp P ops w0 Q i K a wc):wpOp P ops Q i K' a w:=by
 unfold mOp at hh
 unfold wpOp
 split
 ·simp_all
 ·rename_i o ho;simp only[ho]at hh;split
  ·rename_i hw;simp only[hw,if_true]at hh;rcases hh with⟨v,h3,h4⟩|hh
   ·have h5:=h3 w (regrown_of_below h2);refine .inl ?_;unfold Oper.mildAt at h5;unfold Oper.wp;generalize (execOp a.eval o).run P w=r at *
    cases r with
    | ok n w'=>
     cases n<;>simp only[Oper.mildUpon]at h5<;>simp only[Oper.upon]
     case value u=>obtain⟨e1,e2⟩:=h5;rw[e1,e2];exact h _ _ _ h1 h2 h4
     case skip=>obtain⟨e1,e2⟩:=h5;rw[e1,<- e2];exact h _ _ _ h1 h2 h4
     case enter f args=>
      obtain⟨e1,hc⟩:=h5;rw[e1];exact hc.mono fun e w'' ⟨he,hw''⟩=>by subst he;exact h _ _ _ (h1.step hw'') (h2.step hw'') h4
    | halt x w'=>simp only[Oper.mildUpon]at h5
   ·exact(hh w h1 h2).imp (Oper.wp_calm fun a' w' h3=>h _ _ _ (Below.refl _ _) h3.1 h3.2) id
  ·rename_i hw;simp only[hw]at hh;exact h _ _ _ h1 h2 hh
def YM (P:Program) (ops:Array Oper) (w0:World) (o:Oper) (v:Value) (a:Act):Prop:=
 (Region.wanted o (yielded ops a.tmps)=true/\∀w,(∃p:Regrown,w=grow (redrawn w0 p.d) p.os)->o.mildAt P a w v)\/(Region.wanted o (yielded ops a.tmps)=false/\v=undef)
theorem YM.mOp {i:Nat} {o:Oper} {v:Value} {a:Act} (hi:ops[i]?=some o) (hy:YM P ops w0 o v a) {K:Act->World->Prop} {wc:World} (h:K (a.put o.dst v) wc):mOp P ops w0 Q i K a wc:=by
 unfold Go.mOp;simp only[hi];rcases hy with⟨hw,hv⟩|⟨hw,rfl⟩
 ·simp only[hw,if_true];exact .inl ⟨v,hv,h⟩
 ·simp only[hw,Bool.false_eq_true,if_false];exact h
theorem YM.of_same {o:Oper} {v:Value} {a a':Act} (hy:YM P ops w0 o v a) (he:execOp a'.eval o=execOp a.eval o)
 (hw:Region.wanted o (yielded ops a'.tmps)=Region.wanted o (yielded ops a.tmps)):YM P ops w0 o v a':=by
 unfold YM Oper.mildAt at *
 rw[he,hw]
 exact hy
theorem Zq {j:Nat} {oi oj:Oper} {v:Value} (hj:ops[j]?=some oj) (hap:oi.apart ops oj=true)
 (hsi:∀cs b,oi.op≠.select cs b) (hsj:∀cs b,oj.op≠.select cs b) {K:Act->World->Prop} {a:Act} {wc:World}
 (hy:YM P ops w0 oi v a) (h:mOp P ops w0 Q j K (a.put oi.dst v) wc):
 mOp P ops w0 Q j (fun a' wc'=>YM P ops w0 oi v a'/\K (a'.put oi.dst v) wc') a wc:=by
 obtain⟨h1,h2,h3⟩:=Oper.apart_spec hap
 have keep:∀(a:Act),YM P ops w0 oi v a->∀u,YM P ops w0 oi v (a.put oj.dst u):=fun a hy u=>
  hy.of_same (execOp_put oi hsi a oj.dst u h3) (wanted_put oi a oj.dst u h3)
 have keepD:∀d,YM P ops w0 oi v {a with defers:=d::a.defers}:=fun d=>hy.of_same rfl rfl
 unfold mOp at *
 simp only[hj]at *
 rw[wanted_put oj a oi.dst v h1]at h
 split
 ·rename_i hw;simp only[hw,if_true]at h;rcases h with⟨u,hu,hn⟩|h
  ·refine .inl ⟨u,fun w hw'=>?_,keep a hy u,by rw[<- Act.put_comm a v u h2];exact hn⟩
   have:=hu w hw'
   unfold Oper.mildAt at *
   rwa [execOp_put oj hsj a oi.dst v h1]at this
  ·refine .inr fun w hw1 hw2=>?_;rcases h w hw1 hw2 with h|⟨hasks,hlets⟩
   case inr=>exact .inr ⟨by unfold Oper.asks at *;rw[execOp_put oj hsj a oi.dst v h1]at hasks;exact hasks,hlets⟩
   refine .inl ?_;unfold Oper.wp at *;rw[execOp_put oj hsj a oi.dst v h1]at h;generalize (execOp a.eval oj).run P w=r at *
   cases r with
   | ok n w'=>
    cases n<;>simp only[Oper.upon]at h ⊢
    case value u=>exact⟨h.1,keep a hy u,by rw[<- Act.put_comm a v u h2];exact h.2⟩
    case skip=>exact⟨h.1,keep a hy _,by rw[<- Act.put_comm a v undef h2];exact h.2⟩
    case defer d=>
     refine⟨h.1,keep _ (keepD d) _,?_⟩;rw[<- Act.put_comm _ v undef h2,<- Act.put_defers];exact h.2
    case enter f args=>
     refine Calls.mono h fun e w'' he=>?_
     cases e with
     | returned u=>exact⟨he.1,keep a hy u,by rw[<- Act.put_comm a v u h2];exact he.2⟩
     | panicked c=>exact absurd he.1 (by simp)
     | outgrown=>exact he
    case row row args=>exact Rows.mono h fun u w'' he=>⟨he.1,keep a hy u,by rw[<- Act.put_comm a v u h2];exact he.2⟩
   | halt x w'=>
    cases x<;>simp only[Oper.upon]at h ⊢
    case panic u=>exact absurd h.1 (by simp)
 ·rename_i hw;simp only[hw]at h;exact⟨keep a hy _,by rw[<- Act.put_comm a v undef h2];exact h⟩
def wpAM (P:Program) (md:Region.Mode) (ops:Array Oper) (w0:World) (Q:Exit->Act->World->Prop) (n:Nat) (L:Array Bool->Act->World->Prop):Nat->Array Bool->Act->World->Prop
 | 0,listed,a,wc=>L listed a wc
 | f+1,listed,a,wc=>
  Region.ready md ops listed≠[]/\∀i∈Region.ready md ops listed,i<n/\mOp P ops w0 Q i (wpAM P md ops w0 Q n L f (listed.setIfInBounds i true)) a wc
theorem Ez {n g:Nat} {L:Array Bool->Act->World->Prop} (hL:∀listed a wc w,Below wc.heap.size wc w->Below w0.heap.size w0 w->L listed a wc->wpAny P md ops Q g listed a w):
 ∀(f:Nat) (listed:Array Bool) (a:Act) (wc w:World),Below wc.heap.size wc w->Below w0.heap.size w0 w->wpAM P md ops w0 Q n L f listed a wc->wpAny P md ops Q (f+g) listed a w
 | 0,listed,a,wc,w,h1,h2,h=>by rw[Nat.zero_add];exact hL _ _ _ _ h1 h2 h
 | f+1,listed,a,wc,w,h1,h2,h=>by
  rw[show f+1+g=(f+g)+1 by omega];exact⟨fun h0=>absurd h0 h.1,fun i hi=>Nh h1 h2 (fun a' wc' w' h3 h4 h5=>Ez hL f _ a' wc' w' h3 h4 h5) (h.2 i hi).2⟩
def TailWaits (md:Region.Mode) (ops:Array Oper) (n:Nat):Prop:=∀(listed:Array Bool),HeadInv md ops n listed->∀i,i<n->listed.getD i true=false->∀t,n<=t->t∉Region.ready md ops listed
theorem Jd {n i:Nat} {oi:Oper} {v:Value} {L:Array Bool->Act->World->Prop} (hi:ops[i]?=some oi) (hsel:∀(j:Nat) (o:Oper) cs b,ops[j]?=some o->o.op≠.select cs b)
 (hw:TailWaits md ops n) (hin:i<n)
 (hdone:∀listed a wc,L listed a wc->∀j∈Region.ready md ops listed,n<=j):
 ∀(f:Nat) (listed:Array Bool) (a:Act) (wc:World),HeadInv md ops n listed ->
  (∀j oj,ops[j]?=some oj->j≠i->listed.getD j true=false->(∀e∈oj.after,Region.binds md e=true->e.on≠i)->oi.apart ops oj=true) ->
  i∈Region.ready md ops listed->YM P ops w0 oi v a ->
  wpAM P md ops w0 Q n L f (listed.setIfInBounds i true) (a.put oi.dst v) wc->wpAM P md ops w0 Q n L (f+1) listed a wc:=by
 intro f
 induction f with
 | zero=>
  intro listed a wc inv _ hr hy H;have hun:=(mem_ready.1 hr).1;refine⟨fun h=>(by rw[h]at hr;cases hr),fun j hj=>?_⟩;have hjn:j<n:=by
   rcases Nat.lt_or_ge j n with h|h
   ·exact h
   ·exact absurd hj (hw listed inv i hin hun j h)
  refine⟨hjn,?_⟩;by_cases hji:j=i
  ·subst hji;exact hy.mOp hi H
  ·have:=hdone _ _ _ H j (ready_mono hj hji);omega
 | succ f ih=>
  intro listed a wc inv hfree hr hy H;have hun:=(mem_ready.1 hr).1;refine⟨fun h=>(by rw[h]at hr;cases hr),fun j hj=>?_⟩;have hjn:j<n:=by
   rcases Nat.lt_or_ge j n with h|h
   ·exact h
   ·exact absurd hj (hw listed inv i hin hun j h)
  refine⟨hjn,?_⟩;by_cases hji:j=i
  ·subst hji;exact hy.mOp hi H
  ·have h1:=(H.2 j (ready_mono hj hji)).2;obtain⟨hjun,oj,hoj,hall⟩:=mem_ready.1 hj;have hnot:∀e∈oj.after,Region.binds md e=true->e.on≠i:=fun e he hb heq=>by
    have h1:=hall e he hb;rw[heq,getD_both hun]at h1
    cases h1
   have h2:=Zq hoj (hfree j oj hoj hji hjun hnot) (fun cs b=>hsel i oi cs b hi) (fun cs b=>hsel j oj cs b hoj) hy h1;have hfree':∀k ok,ops[k]?=some ok->k≠i->(listed.setIfInBounds j true).getD k true=false ->
    (∀e∈ok.after,Region.binds md e=true->e.on≠i)->oi.apart ops ok=true:=fun k ok hk hki hun hno=>by
    refine hfree k ok hk hki ?_ hno
    by_cases hjk:j=k
    ·subst hjk;exact hjun
    ·rw[getD_set_ne true hjk]at hun;exact hun
   refine Xv (fun a' wc' h3=>ih (listed.setIfInBounds j true) a' wc' (inv.set hj hjn) hfree' (ready_mono hr (Ne.symm hji)) h3.1 ?_) h2;rw[Array.setIfInBounds_comm _ _ hji];exact h3.2
def wpM (P:Program) (ops:Array Oper) (w0:World) (Q:Exit->Act->World->Prop) (tail:List Oper):List (Nat×Bool)->Act->World->Prop
 | [],a,wc=>∀w,Below wc.heap.size wc w->Below w0.heap.size w0 w->wpList P ops Q tail a w
 | (k,false)::r,a,wc=>∃o,ops[k]?=some o/\if Region.wanted o (yielded ops a.tmps)then o.mild P a w0 (fun a'=>wpM P ops w0 Q tail r a' wc)else wpM P ops w0 Q tail r (a.put o.dst undef) wc
 | (k,true)::r,a,wc=>∃o,ops[k]?=some o/\∀w,Below wc.heap.size wc w->Below w0.heap.size w0 w ->
  wpList P ops (Exit.then (fun a' w'=>Below w0.heap.size w0 w'/\wpM P ops w0 Q tail r a' w') (calm Q)) [o] a w
def Region.mixB (md:Region.Mode) (ops:Array Oper) (g n:Nat):List (Nat×Bool)->Array Bool->Bool
 | [],listed=>Region.seqB md ops g n listed
 | (k,false)::r,listed=>(Region.ready md ops listed).contains k&&Region.free md ops listed k&&decide (k<n)&&Region.mixB md ops g n r (listed.setIfInBounds k true)
 | (k,true)::r,listed=>decide (Region.ready md ops listed=[k])&&decide (k<n)&&(match ops[k]? with|some o=>o.guard.isNone|none=>false)&&Region.mixB md ops g n r (listed.setIfInBounds k true)
theorem Dd {n g:Nat} {tail:List Oper} (hsel:Region.noSelect ops=true) (hw:TailWaits md ops n):
 ∀(r:List (Nat×Bool)) (listed:Array Bool) (a:Act) (wc:World),HeadInv md ops n listed->Region.mixB md ops g n r listed=true->wpM P ops w0 Q tail r a wc ->
 wpAM P md ops w0 Q n (fun listed' a' wc'=>Region.seqB md ops g n listed'=true/\∀w,Below wc'.heap.size wc' w->Below w0.heap.size w0 w->wpList P ops Q tail a' w) r.length listed a wc
 | [],listed,a,wc,_,hB,h=>⟨by simpa[Region.mixB]using hB,h⟩
 | (k,false)::r,listed,a,wc,inv,hB,h=>by
  obtain⟨o,h0,h⟩:=h;simp only[Region.mixB,Bool.and_eq_true,decide_eq_true_eq]at hB;obtain⟨⟨⟨hr,hf⟩,hkn⟩,hB'⟩:=hB;have hr':k∈Region.ready md ops listed:=by simpa using hr
  obtain⟨v,hy,hK⟩:∃v,YM P ops w0 o v a/\wpM P ops w0 Q tail r (a.put o.dst v) wc:=by
   by_cases hwt:Region.wanted o (yielded ops a.tmps)=true
   ·rw[if_pos hwt]at h;obtain⟨v,h1,h2⟩:=h;exact⟨v,.inl ⟨hwt,h1⟩,h2⟩
   ·rw[if_neg hwt]at h;exact⟨undef,.inr ⟨by simpa using hwt,rfl⟩,h⟩
  exact Jd h0 (Region.noSelect_spec hsel) hw hkn (fun listed' a' wc' hL=>seqB_ready hL.1) r.length listed a wc inv (Region.free_spec h0 hf) hr' hy
   (Dd hsel hw r _ _ _ (inv.set hr' hkn) hB' hK)
 | (k,true)::r,listed,a,wc,inv,hB,h=>by
  obtain⟨o,h0,h⟩:=h;simp only[Region.mixB,Bool.and_eq_true,decide_eq_true_eq]at hB;obtain⟨⟨⟨hr,hkn⟩,hgd⟩,hB'⟩:=hB;have hr':k∈Region.ready md ops listed:=by rw[hr];simp
  have hgd':o.guard=none:=by rw[h0]at hgd;simpa using hgd
  refine⟨by rw[hr];simp,fun j hj=>?_⟩;rw[hr]at hj;have hjk:j=k:=by simpa using hj
  subst hjk;refine⟨hkn,?_⟩;have hwt:∀a:Act,Region.wanted o (yielded ops a.tmps)=true:=fun a=>by simp[Region.wanted,hgd']
  unfold mOp;simp only[h0,hwt a,if_true];refine .inr fun w h1 h2=>?_;have h3:=h w h1 h2;simp only[wpList,hwt a,if_true]at h3;rcases h3 with h3|h3
  ·refine .inl ?_;unfold Oper.wp at *;generalize (execOp a.eval o).run P w=r' at *
   cases r' with
   | ok nx w'=>
    cases nx<;>simp only[Oper.upon]at h3 ⊢
    case value u=>exact⟨h3.1,Dd hsel hw r _ _ _ (inv.set hr' hkn) hB' h3.2⟩
    case skip=>exact⟨h3.1,Dd hsel hw r _ _ _ (inv.set hr' hkn) hB' h3.2⟩
    case defer d=>exact⟨h3.1,Dd hsel hw r _ _ _ (inv.set hr' hkn) hB' h3.2⟩
    case enter f args=>
     refine Calls.mono h3 fun e w'' he=>?_
     cases e with
     | returned u=>exact⟨he.1,Dd hsel hw r _ _ _ (inv.set hr' hkn) hB' he.2⟩
     | panicked c=>exact he
     | outgrown=>obtain⟨a1,w1,h4⟩:=he;exact⟨a1,w1,h4⟩
    case row row args=>exact Rows.mono h3 fun u w'' he=>⟨he.1,Dd hsel hw r _ _ _ (inv.set hr' hkn) hB' he.2⟩
   | halt x w'=>
    cases x<;>simp only[Oper.upon]at h3 ⊢
    case panic u=>exact h3
  ·obtain⟨h3,a1,w1,h4⟩:=h3;exact .inr ⟨h3,a1,w1,h4.2⟩
def Region.mixedB (md:Region.Mode) (ops:Array Oper) (n:Nat) (r:List (Nat×Bool)):Bool:=
 Region.noSelect ops&&decide (n<=ops.size)&&decide (r.length=n)&&(decide (n=ops.size)||(Region.sinkB md ops n&&Region.chainB md ops n))&&Region.mixB md ops (ops.size - n) n r (Array.replicate ops.size false)
theorem Ab {id:Nat} {a:Act} {w:World} {l:List Oper} (n:Nat) (r:List (Nat×Bool)) (hm:P.follows .mixedOrders=true) (hB:Region.mixedB .any l.toArray n r=true)
 (h:wpM P l.toArray w Q (l.drop n) r a w):(Code.region id l.toArray true).wp P Q a w:=by
 simp only[Region.mixedB,Bool.and_eq_true,decide_eq_true_eq,Bool.or_eq_true]at hB
 obtain⟨⟨⟨⟨hsel,hn⟩,hrl⟩,hs⟩,hmix⟩:=hB
 have hdl:(l.drop n).length=l.toArray.size - n:=by simp
 have hw:TailWaits .any l.toArray n:=by
  rcases hs with hs|⟨hs,hc⟩
  ·intro listed _ i _ _ t ht hr;obtain⟨_,o,ho,_⟩:=mem_ready.1 hr;have:=(Array.getElem?_eq_some_iff.1 ho).1;omega
  ·intro listed inv i hi hun t ht;by_cases hn':n<l.toArray.size
   ·exact tail_waits hs hc hn' inv _ i rfl hi hun t ht
   ·intro hr;obtain⟨_,o,ho,_⟩:=mem_ready.1 hr;have:=(Array.getElem?_eq_some_iff.1 ho).1;omega
 have inv0:HeadInv .any l.toArray n (Array.replicate l.toArray.size false):=
  ⟨by simp,fun j oj _ hl=>(by rw[getD_replicate_false]at hl;cases hl),fun t _ ht=>getD_in (by simpa using ht) (getD_replicate_false _ _)⟩
 have H:=Dd (md:=.any) (g:=l.toArray.size - n) hsel hw r _ a w inv0 hmix h
 refine wp_region_any hm ?_
 have hd:Below w.heap.size w {w with drawn:=w.drawn+1}:=⟨rfl,rfl,rfl,Nat.le_refl _,fun _ _=>rfl⟩
 have:=Ez (Q:=Q) (g:=l.toArray.size - n) (fun listed a' wc w' h1 h2 hL=>by
  have:=wpAny_of_seq (md:=.any) (Q':=Q) (l.drop n) n listed a' w' (fun j=>by simp[List.getElem?_drop]) (by rw[hdl];exact hL.1) (hL.2 w' h1 h2)
  rwa [hdl]at this) _ _ _ _ _ hd hd H
 rw[hrl,show n+(l.toArray.size - n)=l.toArray.size by omega]at this
 exact this
theorem An {l:List Oper} {tail:List Oper} {k:Nat} {r:List (Nat×Bool)} {a:Act} {wc:World} {o:Oper} (ho:l[k]?=some o)
 (h:∀K:Act->Prop,(∀a',wpM P l.toArray w0 Q tail r a' wc->K a')->if Region.wanted o (yielded l.toArray a.tmps)then o.mild P a w0 K else K (a.put o.dst undef)):wpM P l.toArray w0 Q tail ((k,false)::r) a wc:=
 ⟨o,by simpa using ho,h _ (fun _ h=>h)⟩
theorem I1 {l:List Oper} {tail:List Oper} {k:Nat} {r:List (Nat×Bool)} {a:Act} {wc:World} {o:Oper} (ho:l[k]?=some o)
 (h:∀w,Below wc.heap.size wc w->Below w0.heap.size w0 w->wpList P l.toArray (Exit.then (fun a' w'=>Below w0.heap.size w0 w'/\wpM P l.toArray w0 Q tail r a' w') (calm Q)) [o] a w):wpM P l.toArray w0 Q tail ((k,true)::r) a wc:=
 ⟨o,by simpa using ho,h⟩
theorem Dc {tail:List Oper} {a:Act} {wc:World} (h:∀w,Below wc.heap.size wc w->Below w0.heap.size w0 w->wpList P ops Q tail a w):wpM P ops w0 Q tail [] a wc:=h
theorem A3 {a:Act} {wc:World} (h:∀w,Below wc.heap.size wc w->Below w0.heap.size w0 w->Q .normal a w):wpM P ops w0 Q [] [] a wc:=h
end
attribute [go_sem] Oper.mild Oper.mildAt Oper.mildUpon
end Go
namespace Go
open Go.RowKit Go.WideElems Go.ChangeShapes Go.WideShapes
section
variable {H:Type} {enc:TypeId×Value->H} {P:Program}
theorem Ga (hl:laidOutB P=true) {W W':World} (hb:Below W.heap.size W W'):∀{ts:List TypeId} {vs:List Value} {ds:List (DataW H)} {ps:List MemPlace},
 (∀t∈ts,P.readableRec t=true/\t<P.types.size)->DataW.TrodAll enc P W 0 (fun _=>true) true ts vs ds ps->(∀x∈ps,x.block<W.heap.size) ->
 DataW.TrodAll enc P W' 0 (fun b=>decide (b<W.heap.size)) true ts vs ds ps
 | [],vs,ds,ps,_,h,_=>by
  obtain⟨rfl,rfl,rfl⟩:=trodAll_nil h;exact trodAll_mk0
 | t::ts,vs,ds,ps,hts,h,hlt=>by
  obtain⟨v,vs',d,ds',p,q,rfl,rfl,rfl,h1,h2⟩:=trodAll_cons h;have ht:=hts t (by simp);exact trodAll_cons_mk (Trod_stays hl ht.1 ht.2 h1 (fun x hx=>hb.same (hlt x (by simp[hx]))) (fun x hx=>by simpa using hlt x (by simp[hx])))
   (Ga hl hb (fun t ht=>hts t (by simp[ht])) h2 (fun x hx=>hlt x (by simp[hx])))
theorem Ov {f:Func} {s:ChangeSpec} {W W':World} {args:Array Value} {ds:List (DataW H)} {before:List MemPlace} {tb:TypeId}
 (hl:laidOutB P=true) (hts:∀t∈f.params.toList,P.readableRec t=true/\t<P.types.size) (hv:s.vars=[]) (hr:f.resultTypes=#[tb]) (htb:P.underlying tb=some .bool)
 (hW:DataW.Whole enc P f.params.toList s.vars false W args.toList ds [] before) (hb:Below W.heap.size W W')
 (hs:s.fn H (ds++[])={results:=[.lit (.bool true)],args:=ds}):
 s.post enc P f false true false false W args (.bool true) W':=by
 have hW':=hW
 obtain⟨p,q,hA,hV,rfl,hfz,hnd⟩:=hW
 rw[hv]at hV
 obtain⟨_,rfl⟩:=trodVars_none hV
 have hlt:=hW'.lt
 refine⟨ds,[],p++[],[],p,[],hW',?_,?_,?_,hb.frame _,fun h=>by cases h⟩
 ·rw[hs,hr];exact trodAll_mk1 (shut_bool htb _)
 ·rw[hs];exact Ga hl hb hts hA (fun x hx=>hlt x (by simp[hx]))
 ·rw[hs,hv];rfl
end
end Go
namespace Go
open Go.Sort Go.RowKit
inductive Plan where
 | stop
 | mild (k:Nat) (r:Plan)
 | eff (k:Nat) (r:Plan)
 | two (k1:Nat) (r1:Plan) (k2:Nat) (r2:Plan)
def Plan.len:Plan->Nat
 | .stop=>0
 | .mild _ r=>r.len+1
 | .eff _ r=>r.len+1
 | .two _ r1 _ _=>r1.len+1
section
variable {P:Program} {ops:Array Oper} {md:Region.Mode} {w0:World} {Q:Exit->Act->World->Prop}
def wpP (P:Program) (ops:Array Oper) (w0:World) (Q:Exit->Act->World->Prop) (tail:List Oper):Plan->Act->World->Prop
 | .stop,a,wc=>∀w,Below wc.heap.size wc w->Below w0.heap.size w0 w->wpList P ops Q tail a w
 | .mild k r,a,wc=>∃o,ops[k]?=some o/\if Region.wanted o (yielded ops a.tmps)then o.mild P a w0 (fun a'=>wpP P ops w0 Q tail r a' wc)else wpP P ops w0 Q tail r (a.put o.dst undef) wc
 | .eff k r,a,wc=>∃o,ops[k]?=some o/\∀w,Below wc.heap.size wc w->Below w0.heap.size w0 w ->
  wpList P ops (Exit.then (fun a' w'=>Below w0.heap.size w0 w'/\wpP P ops w0 Q tail r a' w') (calm Q)) [o] a w
 | .two k1 r1 k2 r2,a,wc=>
  (∃o,ops[k1]?=some o/\∀w,Below wc.heap.size wc w->Below w0.heap.size w0 w->wpList P ops (Exit.then (fun a' w'=>Below w0.heap.size w0 w'/\wpP P ops w0 Q tail r1 a' w') (calm Q)) [o] a w)/\
  (∃o,ops[k2]?=some o/\∀w,Below wc.heap.size wc w->Below w0.heap.size w0 w->wpList P ops (Exit.then (fun a' w'=>Below w0.heap.size w0 w'/\wpP P ops w0 Q tail r2 a' w') (calm Q)) [o] a w)
def Region.effB (ops:Array Oper) (n k:Nat):Bool:=decide (k<n)&&(match ops[k]? with|some o=>o.guard.isNone|none=>false)
def Region.planB (md:Region.Mode) (ops:Array Oper) (g n:Nat):Plan->Array Bool->Bool
 | .stop,listed=>Region.seqB md ops g n listed
 | .mild k r,listed=>(Region.ready md ops listed).contains k&&Region.free md ops listed k&&decide (k<n)&&Region.planB md ops g n r (listed.setIfInBounds k true)
 | .eff k r,listed=>decide (Region.ready md ops listed=[k])&&Region.effB ops n k&&Region.planB md ops g n r (listed.setIfInBounds k true)
 | .two k1 r1 k2 r2,listed=>decide (Region.ready md ops listed=[k1,k2])&&Region.effB ops n k1&&Region.effB ops n k2&&decide (r1.len=r2.len)&&
  Region.planB md ops g n r1 (listed.setIfInBounds k1 true)&&Region.planB md ops g n r2 (listed.setIfInBounds k2 true)
theorem Gp {k:Nat} {o:Oper} {a:Act} {wc:World} {K K':Act->World->Prop} (h0:ops[k]?=some o) (hgd:o.guard=none) (hK:∀a w,K a w->K' a w)
 (h:∀w,Below wc.heap.size wc w->Below w0.heap.size w0 w->wpList P ops (Exit.then (fun a' w'=>Below w0.heap.size w0 w'/\K a' w') (calm Q)) [o] a w):mOp P ops w0 Q k K' a wc:=by
 have hwt:∀a:Act,Region.wanted o (yielded ops a.tmps)=true:=fun a=>by simp[Region.wanted,hgd]
 unfold mOp
 simp only[h0,hwt a,if_true]
 refine .inr fun w h1 h2=>?_
 have h3:=h w h1 h2
 simp only[wpList,hwt a,if_true]at h3
 rcases h3 with h3|h3
 ·refine .inl ?_;unfold Oper.wp at *;generalize (execOp a.eval o).run P w=r' at *
  cases r' with
  | ok nx w'=>
   cases nx<;>simp only[Oper.upon]at h3 ⊢
   case value u=>exact⟨h3.1,hK _ _ h3.2⟩
   case skip=>exact⟨h3.1,hK _ _ h3.2⟩
   case defer d=>exact⟨h3.1,hK _ _ h3.2⟩
   case enter f args=>
    refine Calls.mono h3 fun e w'' he=>?_
    cases e with
    | returned u=>exact⟨he.1,hK _ _ he.2⟩
    | panicked c=>exact he
    | outgrown=>obtain⟨a1,w1,h4⟩:=he;exact⟨a1,w1,h4⟩
   case row row args=>exact Rows.mono h3 fun u w'' he=>⟨he.1,hK _ _ he.2⟩
  | halt x w'=>
   cases x<;>simp only[Oper.upon]at h3 ⊢
   case panic u=>exact h3
 ·obtain⟨h3,a1,w1,h4⟩:=h3;exact .inr ⟨h3,a1,w1,h4.2⟩
theorem D2 {n g:Nat} {tail:List Oper} (hsel:Region.noSelect ops=true) (hw:TailWaits md ops n):
 ∀(r:Plan) (listed:Array Bool) (a:Act) (wc:World),HeadInv md ops n listed->Region.planB md ops g n r listed=true->wpP P ops w0 Q tail r a wc ->
 wpAM P md ops w0 Q n (fun listed' a' wc'=>Region.seqB md ops g n listed'=true/\∀w,Below wc'.heap.size wc' w->Below w0.heap.size w0 w->wpList P ops Q tail a' w) r.len listed a wc
 | .stop,listed,a,wc,_,hB,h=>⟨by simpa[Region.planB]using hB,h⟩
 | .mild k r,listed,a,wc,inv,hB,h=>by
  obtain⟨o,h0,h⟩:=h;simp only[Region.planB,Bool.and_eq_true,decide_eq_true_eq]at hB;obtain⟨⟨⟨hr,hf⟩,hkn⟩,hB'⟩:=hB;have hr':k∈Region.ready md ops listed:=by simpa using hr
  obtain⟨v,hy,hK⟩:∃v,YM P ops w0 o v a/\wpP P ops w0 Q tail r (a.put o.dst v) wc:=by
   by_cases hwt:Region.wanted o (yielded ops a.tmps)=true
   ·rw[if_pos hwt]at h;obtain⟨v,h1,h2⟩:=h;exact⟨v,.inl ⟨hwt,h1⟩,h2⟩
   ·rw[if_neg hwt]at h;exact⟨undef,.inr ⟨by simpa using hwt,rfl⟩,h⟩
  exact Jd h0 (Region.noSelect_spec hsel) hw hkn (fun listed' a' wc' hL=>seqB_ready hL.1) r.len listed a wc inv (Region.free_spec h0 hf) hr' hy
   (D2 hsel hw r _ _ _ (inv.set hr' hkn) hB' hK)
 | .eff k r,listed,a,wc,inv,hB,h=>by
  obtain⟨o,h0,h⟩:=h;simp only[Region.planB,Region.effB,Bool.and_eq_true,decide_eq_true_eq]at hB;obtain⟨⟨hr,hkn,hgd⟩,hB'⟩:=hB;have hr':k∈Region.ready md ops listed:=by rw[hr];simp
  have hgd':o.guard=none:=by rw[h0]at hgd;simpa using hgd
  refine⟨by rw[hr];simp,fun j hj=>?_⟩;rw[hr]at hj;have hjk:j=k:=by simpa using hj
  subst hjk;exact⟨hkn,Gp h0 hgd' (fun a' w' h'=>D2 hsel hw r _ _ _ (inv.set hr' hkn) hB' h') h⟩
 | .two k1 r1 k2 r2,listed,a,wc,inv,hB,h=>by
  obtain⟨⟨o1,h01,h1⟩,⟨o2,h02,h2⟩⟩:=h;simp only[Region.planB,Region.effB,Bool.and_eq_true,decide_eq_true_eq]at hB;obtain⟨⟨⟨⟨⟨hr,hkn1,hgd1⟩,hkn2,hgd2⟩,hlen⟩,hB1⟩,hB2⟩:=hB;have hr1:k1∈Region.ready md ops listed:=by rw[hr];simp
  have hr2:k2∈Region.ready md ops listed:=by rw[hr];simp
  have hgd1':o1.guard=none:=by rw[h01]at hgd1;simpa using hgd1
  have hgd2':o2.guard=none:=by rw[h02]at hgd2;simpa using hgd2
  refine⟨by rw[hr];simp,fun j hj=>?_⟩;rw[hr]at hj;have hjk:j=k1\/j=k2:=by simpa using hj
  rcases hjk with rfl|rfl
  ·exact⟨hkn1,Gp h01 hgd1' (fun a' w' h'=>D2 hsel hw r1 _ _ _ (inv.set hr1 hkn1) hB1 h') h1⟩
  ·exact⟨hkn2,Gp h02 hgd2' (fun a' w' h'=>by
    have:=D2 hsel hw r2 _ _ _ (inv.set hr2 hkn2) hB2 h';rw[<- hlen]at this;exact this) h2⟩
def Region.plannedB (md:Region.Mode) (ops:Array Oper) (n:Nat) (r:Plan):Bool:=
 Region.noSelect ops&&decide (n<=ops.size)&&decide (r.len=n)&&(decide (n=ops.size)||(Region.sinkB md ops n&&Region.chainB md ops n))&&Region.planB md ops (ops.size - n) n r (Array.replicate ops.size false)
theorem Ey {id:Nat} {a:Act} {w:World} {l:List Oper} (n:Nat) (r:Plan) (hm:P.follows .mixedOrders=true) (hB:Region.plannedB .any l.toArray n r=true)
 (h:wpP P l.toArray w Q (l.drop n) r a w):(Code.region id l.toArray true).wp P Q a w:=by
 simp only[Region.plannedB,Bool.and_eq_true,decide_eq_true_eq,Bool.or_eq_true]at hB
 obtain⟨⟨⟨⟨hsel,hn⟩,hrl⟩,hs⟩,hmix⟩:=hB
 have hdl:(l.drop n).length=l.toArray.size - n:=by simp
 have hw:TailWaits .any l.toArray n:=by
  rcases hs with hs|⟨hs,hc⟩
  ·intro listed _ i _ _ t ht hr;obtain⟨_,o,ho,_⟩:=mem_ready.1 hr;have:=(Array.getElem?_eq_some_iff.1 ho).1;omega
  ·intro listed inv i hi hun t ht;by_cases hn':n<l.toArray.size
   ·exact tail_waits hs hc hn' inv _ i rfl hi hun t ht
   ·intro hr;obtain⟨_,o,ho,_⟩:=mem_ready.1 hr;have:=(Array.getElem?_eq_some_iff.1 ho).1;omega
 have inv0:HeadInv .any l.toArray n (Array.replicate l.toArray.size false):=
  ⟨by simp,fun j oj _ hl=>(by rw[getD_replicate_false]at hl;cases hl),fun t _ ht=>getD_in (by simpa using ht) (getD_replicate_false _ _)⟩
 have H:=D2 (md:=.any) (g:=l.toArray.size - n) hsel hw r _ a w inv0 hmix h
 refine wp_region_any hm ?_
 have hd:Below w.heap.size w {w with drawn:=w.drawn+1}:=⟨rfl,rfl,rfl,Nat.le_refl _,fun _ _=>rfl⟩
 have:=Ez (Q:=Q) (g:=l.toArray.size - n) (fun listed a' wc w' h1 h2 hL=>by
  have:=wpAny_of_seq (md:=.any) (Q':=Q) (l.drop n) n listed a' w' (fun j=>by simp[List.getElem?_drop]) (by rw[hdl];exact hL.1) (hL.2 w' h1 h2)
  rwa [hdl]at this) _ _ _ _ _ hd hd H
 rw[hrl,show n+(l.toArray.size - n)=l.toArray.size by omega]at this
 exact this
theorem Cb {l:List Oper} {tail:List Oper} {k:Nat} {r:Plan} {a:Act} {wc:World} {o:Oper} (ho:l[k]?=some o)
 (h:∀K:Act->Prop,(∀a',wpP P l.toArray w0 Q tail r a' wc->K a')->if Region.wanted o (yielded l.toArray a.tmps)then o.mild P a w0 K else K (a.put o.dst undef)):wpP P l.toArray w0 Q tail (.mild k r) a wc:=
 ⟨o,by simpa using ho,h _ (fun _ h=>h)⟩
theorem Ck {l:List Oper} {tail:List Oper} {k:Nat} {r:Plan} {a:Act} {wc:World} {o:Oper} (ho:l[k]?=some o)
 (h:∀w,Below wc.heap.size wc w->Below w0.heap.size w0 w->wpList P l.toArray (Exit.then (fun a' w'=>Below w0.heap.size w0 w'/\wpP P l.toArray w0 Q tail r a' w') (calm Q)) [o] a w):wpP P l.toArray w0 Q tail (.eff k r) a wc:=
 ⟨o,by simpa using ho,h⟩
theorem Sg {l:List Oper} {tail:List Oper} {k1 k2:Nat} {r1 r2:Plan} {a:Act} {wc:World}
 (h1:wpP P l.toArray w0 Q tail (.eff k1 r1) a wc) (h2:wpP P l.toArray w0 Q tail (.eff k2 r2) a wc):wpP P l.toArray w0 Q tail (.two k1 r1 k2 r2) a wc:=⟨h1,h2⟩
theorem Sh {a:Act} {wc:World} (h:∀w,Below wc.heap.size wc w->Below w0.heap.size w0 w->Q .normal a w):wpP P ops w0 Q [] .stop a wc:=h
theorem Ng {tail:List Oper} {a:Act} {wc:World} (h:∀w,Below wc.heap.size wc w->Below w0.heap.size w0 w->wpList P ops Q tail a w):wpP P ops w0 Q tail .stop a wc:=h
end
end Go
namespace Go
open Go.Sort Go.RowKit
abbrev Blk:=Nat×Array Value×TypeId
structure St (w0 w:World) (L:List Blk):Prop where
 below:Below w0.heap.size w0 w
 own:∀x∈L,w0.heap.size<=x.1/\w.heap[x.1]?=some (.cells x.2.1 x.2.2 (0,0))
 apart:(L.map (·.1)).Nodup
theorem St.start (w:World):St w w []:=⟨Below.refl _ _,by simp,by simp⟩
theorem St.kept {w0 w w':World} {L:List Blk} (h:St w0 w L) (hb:Below w.heap.size w w'):St w0 w' L:=
 ⟨h.below.step hb,fun x hx=>⟨(h.own x hx).1,by rw[hb.block _ (Array.getElem?_eq_some_iff.1 (h.own x hx).2).1];exact(h.own x hx).2⟩,h.apart⟩
theorem St.alloc {w0 w:World} {L:List Blk} {cs:Array Value} {t:TypeId} (h:St w0 w L):St w0 (w.alloc (.cells cs t)) ((w.heap.size,cs,t)::L):=by
 have hk:=h.kept ((Below.refl w.heap.size w).alloc (Nat.le_refl _) (.cells cs t));refine⟨hk.below,?_,?_⟩
 ·intro x hx;rcases List.mem_cons.1 hx with rfl|hx
  ·exact⟨h.below.size,Nc _ _⟩
  ·exact hk.own x hx
 ·simp only[List.map_cons,List.nodup_cons];refine⟨fun hm=>?_,h.apart⟩;obtain⟨x,hx,e⟩:=List.mem_map.1 hm;have:=(Array.getElem?_eq_some_iff.1 (h.own x hx).2).1;omega
theorem St.laid {w0 w:World} {L:List Blk} {o:Obj} (h:St w0 w L):St w0 (w.alloc o) L:=h.kept ((Below.refl w.heap.size w).alloc (Nat.le_refl _) o)
theorem Fu {L:List Blk} (h:(L.map (·.1)).Nodup) {i:Nat} {x:Blk} (hi:L[i]?=some x) {j:Nat} {y:Blk} (hj:L[j]?=some y) (hne:i≠j):x.1≠y.1:=by
 intro e;have h1:(L.map (·.1))[i]?=some x.1:=by simp[hi]
 have h2:(L.map (·.1))[j]?=some y.1:=by simp[hj]
 obtain⟨l1,e1⟩:=List.getElem?_eq_some_iff.1 h1;obtain⟨l2,e2⟩:=List.getElem?_eq_some_iff.1 h2;have hp:=List.pairwise_iff_getElem.1 h;rcases Nat.lt_or_gt_of_ne hne with hl|hl
 ·exact hp i j l1 l2 hl (by rw[e1,e2,e])
 ·exact hp j i l2 l1 hl (by rw[e1,e2,e])
theorem St.set {w0 w:World} {L:List Blk} (i:Nat) {b o:Nat} {cs:Array Value} {t:TypeId} {v:Value} (h:St w0 w L) (hi:L[i]?=some (b,cs,t)):
 St w0 (w.setCell ⟨b,o,none⟩ v) (L.set i (b,cs.setIfInBounds o v,t)):=by
 have hm:=List.mem_of_getElem? hi
 have ho:=h.own _ hm
 have hb:(w.setCell ⟨b,o,none⟩ v).heap[b]?=some (.cells (cs.setIfInBounds o v) t (0,0)):=by simp[World.setCell,Array.getElem?_modify,ho.2]
 refine⟨h.below.setCell ho.1 _,?_,?_⟩
 ·intro x hx;obtain⟨j,hj⟩:=List.mem_iff_getElem?.1 hx;rw[List.getElem?_set]at hj;split at hj
  ·rename_i e;split at hj
   ·cases hj;exact⟨ho.1,hb⟩
   ·cases hj
  ·rename_i hne;have hox:=h.own x (List.mem_of_getElem? hj);have hnb:=Fu h.apart hi hj hne;exact⟨hox.1,by rw[Below.heap_setCell _ _ _ _ (Ne.symm hnb)];exact hox.2⟩
 ·have e:(L.set i (b,cs.setIfInBounds o v,t)).map (·.1)=L.map (·.1):=by
   rw[List.map_set];have:(L.map (·.1))[i]?=some b:=by simp[hi]
   obtain⟨hl,he⟩:=List.getElem?_eq_some_iff.1 this;apply List.ext_getElem?;intro j;rw[List.getElem?_set];split
   ·rename_i e;subst e;simp[this]
   ·rfl
  rw[e];exact h.apart
theorem St.tail {w0 w:World} {x:Blk} {L:List Blk} (h:St w0 w (x::L)):St w0 w L:=
 ⟨h.below,fun y hy=>h.own y (List.mem_cons_of_mem _ hy),(List.nodup_cons.1 h.apart).2⟩
def cellFacts (w:World) (b:Nat):Nat->List Value->Prop
 | _,[]=>True
 | o,v::l=>(w.cell? ⟨b,o,none⟩=some v/\w.frozen? ⟨b,o,none⟩=false)/\cellFacts w b (o+1) l
def apartFacts (b:Nat):List Blk->Prop
 | []=>True
 | y::L=>(b≠y.1/\y.1≠b)/\apartFacts b L
def St.Facts (w:World):List Blk->Prop
 | []=>True
 | x::L=>x.1<w.heap.size/\cellFacts w x.1 0 x.2.1.toList/\apartFacts x.1 L/\St.Facts w L
theorem Dz {b:Nat}:∀{L:List Blk},b∉L.map (·.1)->apartFacts b L
 | [],_=>trivial
 | y::L,h=>by
  simp only[List.map_cons,List.mem_cons,not_or]at h;exact⟨⟨h.1,Ne.symm h.1⟩,Dz h.2⟩
theorem Am {w:World} {b:Nat} {cs:Array Value} {t:TypeId} (h:w.heap[b]?=some (.cells cs t (0,0))):∀(l:List Value) (o:Nat),(∀j,l[j]?=cs.toList[o+j]?)->cellFacts w b o l
 | [],_,_=>trivial
 | v::l,o,hl=>by
  refine⟨⟨?_,?_⟩,Am h l (o+1) (fun j=>by have:=hl (j+1);simpa[Nat.add_assoc,Nat.add_comm 1 j]using this)⟩
  ·have:=hl 0;simp only[World.cell?,h];simpa using this.symm
  ·simp[World.frozen?,h]
theorem St.facts {w0 w:World}:∀{L:List Blk},St w0 w L->St.Facts w L
 | [],_=>trivial
 | x::L,h=>⟨(Array.getElem?_eq_some_iff.1 (h.own x (by simp)).2).1,Am (h.own x (by simp)).2 _ _ (fun j=>by simp),Dz (List.nodup_cons.1 h.apart).1,h.tail.facts⟩
def cellFactsG (w:World) (b:Nat):Nat->List Value->Prop
 | _,[]=>True
 | o,v::l=>(∀(d:Nat) (os:Array Obj),(grow (redrawn w d) os).cell? ⟨b,o,none⟩=some v)/\cellFactsG w b (o+1) l
def St.FactsG (w:World):List Blk->Prop
 | []=>True
 | x::L=>cellFactsG w x.1 0 x.2.1.toList/\St.FactsG w L
theorem Dy {w:World} {b:Nat} {cs:Array Value} {t:TypeId} (h:w.heap[b]?=some (.cells cs t (0,0))):∀(l:List Value) (o:Nat),(∀j,l[j]?=cs.toList[o+j]?)->cellFactsG w b o l
 | [],_,_=>trivial
 | v::l,o,hl=>by
  refine⟨fun d os=>?_,Dy h l (o+1) (fun j=>by have:=hl (j+1);simpa[Nat.add_assoc,Nat.add_comm 1 j]using this)⟩;have h2:=(below_regrown w d os).blk_kept h;have:=hl 0;simp only[World.cell?,h2];simpa using this.symm
theorem St.factsG {w0 w:World}:∀{L:List Blk},St w0 w L->St.FactsG w L
 | [],_=>trivial
 | x::L,h=>⟨Dy (h.own x (by simp)).2 _ _ (fun j=>by simp),h.tail.factsG⟩
theorem St.call {w0 w w':World} {L:List Blk} {G:Prop} (h:St w0 w L) (hb:Below w.heap.size w w') (k:Hid (St w0 w' L)->G):G:=k (h.kept hb)
theorem St.gen {P:Program} {c:Code} {Q:Exit->Act->World->Prop} {a:Act} {w0 w:World} {L:List Blk} (h:St w0 w L) (k:∀W,Hid (St w0 W L)->Code.wp P c Q a W):Code.wp P c Q a w:=k w h
theorem St.genL {P:Program} {ops:Array Oper} {l:List Oper} {Q:Exit->Act->World->Prop} {a:Act} {w0 w:World} {L:List Blk} (h:St w0 w L) (k:∀W,Hid (St w0 W L)->wpList P ops Q l a W):wpList P ops Q l a w:=k w h
theorem St.blk {w0 w:World} {L:List Blk} (h:St w0 w L) (i:Nat) {b:Nat} {cs:Array Value} {t:TypeId} (hi:L[i]?=some (b,cs,t)):w.heap[b]?=some (.cells cs t (0,0)):=(h.own _ (List.mem_of_getElem? hi)).2
end Go
namespace Go
open Go.Sort Go.RowKit
def CellsAt (w:World) (b o:Nat) (cs:List Value):Prop:=∀j u,cs[j]?=some u->w.cell? ⟨b,o+j,none⟩=some u
theorem CellsAt.kept {w w':World} {b o:Nat} {cs:List Value} (h:CellsAt w b o cs) (hb:Below w.heap.size w w'):CellsAt w' b o cs:=fun j u hu=>hb.cell_kept (h j u hu)
theorem CellsAt.same {w w':World} {b o:Nat} {cs:List Value} (h:CellsAt w b o cs) (hb:w'.heap[b]?=w.heap[b]?):CellsAt w' b o cs:=fun j u hu=>by
 rw[World.cell?_of_block (a:=⟨b,o+j,none⟩) hb];exact h j u hu
def SlAt (w:World) (v:Value) (n:Nat) (cs:List Value):Prop:=∃a cap,v=.slice a n cap/\n<=cap/\(0<n->∃b o,a=some ⟨b,o,none⟩/\CellsAt w b o cs)
theorem SlAt.kept {w w':World} {v:Value} {n:Nat} {cs:List Value} (h:SlAt w v n cs) (hb:Below w.heap.size w w'):SlAt w' v n cs:=by
 obtain⟨a,cap,e,hc,h⟩:=h;exact⟨a,cap,e,hc,fun hn=>by obtain⟨b,o,e2,h2⟩:=h hn;exact⟨b,o,e2,h2.kept hb⟩⟩
theorem World.ownsRow.slAt {w:World} {base:Nat} {e:TypeId} {size:Nat} {v:Value} {n:Nat} {xs:List Value} (h:w.ownsRow base e size v n xs):SlAt w v n xs:=by
 obtain⟨hl,⟨rfl,rfl⟩|⟨g,cap,cur,rfl,_,hb,hc,_,_,ht⟩⟩:=h
 ·exact⟨none,0,rfl,Nat.le_refl _,fun h=>by omega⟩
 ·refine⟨some ⟨g,0,none⟩,cap,rfl,hc,fun _=>⟨g,0,rfl,fun j u hu=>?_⟩⟩;rw[<- ht]at hu;simp only[World.cell?,hb,Nat.zero_add];rw[List.getElem?_take]at hu;split at hu
  ·simpa using hu
  ·cases hu
theorem Gj {P:Program} {ops:Array Oper} {rest:List Oper} {o:Oper} {a:Act} {Q:Exit->Act->World->Prop} {W:World} (hgd:o.guard=none) (s x:Operand) (t:TypeId)
 (ho:o.op=.call {callee:=.builtin .append,args:=#[s,x],argTypes:=#[t,t]})
 (e:TypeId) (z:Value) (size bytes:Nat) (ht:P.underlying t=some (.slice e)) (hinfo:(P.info? e).map (fun i=>(i.zero,i.size,i.bytes))=some (some z,size,bytes)) (hzs:z.cells.size=size) (hsz:0<size)
 (base:Nat) (v:Value) (n:Nat) (xs:List Value) (hs:a.eval s=v) (hown:W.ownsRow base e size v n xs)
 (cs:Array Value) (m nb:Nat) (hm:cs.size=m * size) (hx:a.eval x=.slice (some ⟨nb,0,none⟩) m m) (hnb:W.heap.size=nb) (h1:∀u∈cs.toList,u.oneCell'=true)
 (hbytes:(n+m) * bytes<=140737488355328) (h63:n+m<=maxLen) (hbase:base<=W.heap.size)
 (h:∀v' w',w'.ownsRow base e size v' (n+m) (xs++cs.toList)->W.grownBy w' v.ownBlock->wpList P ops Q rest (a.put o.dst v') w'):wpList P ops Q (o::rest) a (W.alloc (.cells cs e)):=by
 subst hnb
 obtain⟨i0,hi,hz0,hz1,hz2⟩:=info_parts hinfo
 refine wpList_append_own _ hgd s x t ho base e i0 z size bytes ht hi hz0 hz1 hz2 hzs hsz v n xs hs (hown.alloc _) ⟨W.heap.size,0,none⟩ m m cs.toList hx (by simpa using hm) ?_ h1 h63 hbytes (by simp;omega) ?_
 ·intro j u hu;have e1:(⟨W.heap.size,0,none⟩:Addr).add j=⟨W.heap.size,j,none⟩:=by unfold Addr.add;split<;>simp_all
  rw[e1,World.cell?_alloc_at _ _ _ _ rfl];simpa using hu
 ·intro v' w' h2 h3 _;refine h v' w' h2 ?_;exact⟨h3.os,h3.tape,h3.output,by have:=h3.size;simp at this;omega,fun k hk hne=>by
   rw[h3.block k (by simp;omega) hne,Below.heap_alloc _ _ _ hk]⟩
theorem RowKit.Below.own {B base:Nat} {w w1 w2:World} {e:TypeId} {size:Nat} {v:Value} {n:Nat} {xs:List Value} (h:Below B w w1) (hown:w1.ownsRow base e size v n xs) (hg:w1.grownBy w2 v.ownBlock) (hB:B<=base) (hs:B<=w1.heap.size):Below B w w2:=
 Below.grown h hg hs (fun k hk=>by have:=(World.ownsRow.lt hown k hk).1;omega)
theorem Sl {k:IntKind} {a b:Int} (h:a=b):Ending.returned (.int k a)=.returned (.int k b):=by rw[h]
theorem Dh {a b:Bool} (h:a=b):Ending.returned (.bool a)=.returned (.bool b):=by rw[h]
end Go
namespace Go
open Go.Sort Go.RowKit
structure Turn (M:Nat->Prop) (w w':World):Prop where
 os:w'.os=w.os
 tape:w'.tape=w.tape
 output:w'.output=w.output
 size:w.heap.size<=w'.heap.size
 block:∀k,k<w.heap.size->¬M k->w'.heap[k]?=w.heap[k]?
theorem Turn.refl (M:Nat->Prop) (w:World):Turn M w w:=⟨rfl,rfl,rfl,Nat.le_refl _,fun _ _ _=>rfl⟩
theorem Turn.of_below {M:Nat->Prop} {w w':World} (h:Below w.heap.size w w'):Turn M w w':=⟨h.os,h.tape,h.output,h.size,fun k hk _=>h.block k hk⟩
theorem Turn.below {w w':World} (h:Turn (fun _=>False) w w'):Below w.heap.size w w':=⟨h.os,h.tape,h.output,h.size,fun k hk=>h.block k hk id⟩
theorem Turn.trans {M N:Nat->Prop} {a b c:World} (h:Turn M a b) (k:Turn N b c) (hn:∀i,i<a.heap.size->N i->M i):Turn M a c:=
 ⟨k.os.trans h.os,k.tape.trans h.tape,k.output.trans h.output,Nat.le_trans h.size k.size,fun i hi hm=>(k.block i (Nat.lt_of_lt_of_le hi h.size) (fun hN=>hm (hn i hi hN))).trans (h.block i hi hm)⟩
theorem Turn.mono {M N:Nat->Prop} {a b:World} (h:Turn M a b) (hn:∀i,i<a.heap.size->M i->N i):Turn N a b:=
 ⟨h.os,h.tape,h.output,h.size,fun i hi hm=>h.block i hi (fun hM=>hm (hn i hi hM))⟩
theorem Turn.step {M:Nat->Prop} {a b c:World} (h:Turn M a b) (k:Below b.heap.size b c):Turn M a c:=h.trans (Turn.of_below (M:=fun _=>False) k) (fun _ _ h=>h.elim)
theorem Turn.of_grown {w w':World} {row:Option Nat} (h:w.grownBy w' row):Turn (fun k=>row=some k) w w':=⟨h.os,h.tape,h.output,h.size,fun k hk hm=>h.block k hk (fun e=>hm e.symm)⟩
theorem Turn.setCell {M:Nat->Prop} {w w':World} (h:Turn M w w') {b o:Nat} {v:Value} (hb:M b\/w.heap.size<=b):Turn M w (w'.setCell ⟨b,o,none⟩ v):=
 ⟨h.os,h.tape,h.output,by have:=h.size;simp;omega,fun k hk hm=>by
  rw[Below.heap_setCell _ _ _ _ (fun e=>by subst e;rcases hb with hb|hb;exact hm hb;omega)];exact h.block k hk hm⟩
structure StM (M:Nat->Prop) (w0 w:World) (L:List Blk):Prop where
 turn:Turn M w0 w
 own:∀x∈L,(M x.1\/w0.heap.size<=x.1)/\w.heap[x.1]?=some (.cells x.2.1 x.2.2 (0,0))
 apart:(L.map (·.1)).Nodup
theorem StM.start (M:Nat->Prop) (w:World):StM M w w []:=⟨Turn.refl _ _,by simp,by simp⟩
theorem StM.one {M:Nat->Prop} {w:World} {b:Nat} {cs:Array Value} {t:TypeId} (hM:M b) (hb:w.heap[b]?=some (.cells cs t (0,0))):StM M w w [(b,cs,t)]:=⟨Turn.refl _ _,by simp[hM,hb],by simp⟩
theorem StM.kept {M:Nat->Prop} {w0 w w':World} {L:List Blk} (h:StM M w0 w L) (hb:Below w.heap.size w w'):StM M w0 w' L:=
 ⟨h.turn.step hb,fun x hx=>⟨(h.own x hx).1,by rw[hb.block _ (Array.getElem?_eq_some_iff.1 (h.own x hx).2).1];exact(h.own x hx).2⟩,h.apart⟩
theorem StM.turned {M N:Nat->Prop} {w0 w w':World} {L:List Blk} (h:StM M w0 w L) (k:Turn N w w') (hn:∀i,i<w0.heap.size->N i->M i) (ha:∀x∈L,¬N x.1):StM M w0 w' L:=
 ⟨h.turn.trans k hn,fun x hx=>⟨(h.own x hx).1,by rw[k.block _ (Array.getElem?_eq_some_iff.1 (h.own x hx).2).1 (ha x hx)];exact(h.own x hx).2⟩,h.apart⟩
theorem StM.alloc {M:Nat->Prop} {w0 w:World} {L:List Blk} {cs:Array Value} {t:TypeId} (h:StM M w0 w L):StM M w0 (w.alloc (.cells cs t)) ((w.heap.size,cs,t)::L):=by
 have hk:=h.kept ((Below.refl w.heap.size w).alloc (Nat.le_refl _) (.cells cs t));refine⟨hk.turn,?_,?_⟩
 ·intro x hx;rcases List.mem_cons.1 hx with rfl|hx
  ·exact⟨.inr h.turn.size,Nc _ _⟩
  ·exact hk.own x hx
 ·simp only[List.map_cons,List.nodup_cons];refine⟨fun hm=>?_,h.apart⟩;obtain⟨x,hx,e⟩:=List.mem_map.1 hm;have:=(Array.getElem?_eq_some_iff.1 (h.own x hx).2).1;omega
theorem StM.laid {M:Nat->Prop} {w0 w:World} {L:List Blk} {o:Obj} (h:StM M w0 w L):StM M w0 (w.alloc o) L:=h.kept ((Below.refl w.heap.size w).alloc (Nat.le_refl _) o)
theorem StM.set {M:Nat->Prop} {w0 w:World} {L:List Blk} (i:Nat) {b o:Nat} {cs:Array Value} {t:TypeId} {v:Value} (h:StM M w0 w L) (hi:L[i]?=some (b,cs,t)):
 StM M w0 (w.setCell ⟨b,o,none⟩ v) (L.set i (b,cs.setIfInBounds o v,t)):=by
 have hm:=List.mem_of_getElem? hi
 have ho:=h.own _ hm
 have hb:(w.setCell ⟨b,o,none⟩ v).heap[b]?=some (.cells (cs.setIfInBounds o v) t (0,0)):=by simp[World.setCell,Array.getElem?_modify,ho.2]
 refine⟨h.turn.setCell ho.1,?_,?_⟩
 ·intro x hx;obtain⟨j,hj⟩:=List.mem_iff_getElem?.1 hx;rw[List.getElem?_set]at hj;split at hj
  ·rename_i e;split at hj
   ·cases hj;exact⟨ho.1,hb⟩
   ·cases hj
  ·rename_i hne;have hox:=h.own x (List.mem_of_getElem? hj);have hnb:=Fu h.apart hi hj hne;exact⟨hox.1,by rw[Below.heap_setCell _ _ _ _ (Ne.symm hnb)];exact hox.2⟩
 ·have e:(L.set i (b,cs.setIfInBounds o v,t)).map (·.1)=L.map (·.1):=by
   rw[List.map_set];have:(L.map (·.1))[i]?=some b:=by simp[hi]
   obtain⟨hl,he⟩:=List.getElem?_eq_some_iff.1 this;apply List.ext_getElem?;intro j;rw[List.getElem?_set];split
   ·rename_i e;subst e;simp[this]
   ·rfl
  rw[e];exact h.apart
theorem StM.tail {M:Nat->Prop} {w0 w:World} {x:Blk} {L:List Blk} (h:StM M w0 w (x::L)):StM M w0 w L:=
 ⟨h.turn,fun y hy=>h.own y (List.mem_cons_of_mem _ hy),(List.nodup_cons.1 h.apart).2⟩
theorem StM.facts {M:Nat->Prop} {w0 w:World}:∀{L:List Blk},StM M w0 w L->St.Facts w L
 | [],_=>trivial
 | x::L,h=>⟨(Array.getElem?_eq_some_iff.1 (h.own x (by simp)).2).1,Am (h.own x (by simp)).2 _ _ (fun j=>by simp),Dz (List.nodup_cons.1 h.apart).1,h.tail.facts⟩
theorem StM.factsG {M:Nat->Prop} {w0 w:World}:∀{L:List Blk},StM M w0 w L->St.FactsG w L
 | [],_=>trivial
 | x::L,h=>⟨Dy (h.own x (by simp)).2 _ _ (fun j=>by simp),h.tail.factsG⟩
theorem StM.call {M:Nat->Prop} {w0 w w':World} {L:List Blk} {G:Prop} (h:StM M w0 w L) (hb:Below w.heap.size w w') (k:Hid (StM M w0 w' L)->G):G:=k (h.kept hb)
theorem StM.gen {M:Nat->Prop} {P:Program} {c:Code} {Q:Exit->Act->World->Prop} {a:Act} {w0 w:World} {L:List Blk} (h:StM M w0 w L) (k:∀W,Hid (StM M w0 W L)->Code.wp P c Q a W):Code.wp P c Q a w:=k w h
theorem StM.genL {M:Nat->Prop} {P:Program} {ops:Array Oper} {l:List Oper} {Q:Exit->Act->World->Prop} {a:Act} {w0 w:World} {L:List Blk} (h:StM M w0 w L) (k:∀W,Hid (StM M w0 W L)->wpList P ops Q l a W):wpList P ops Q l a w:=k w h
theorem StM.blk {M:Nat->Prop} {w0 w:World} {L:List Blk} (h:StM M w0 w L) (i:Nat) {b:Nat} {cs:Array Value} {t:TypeId} (hi:L[i]?=some (b,cs,t)):w.heap[b]?=some (.cells cs t (0,0)):=(h.own _ (List.mem_of_getElem? hi)).2
def SlIn (Q:Nat->Prop) (w:World) (v:Value) (n:Nat) (cs:List Value):Prop:=∃a cap,v=.slice a n cap/\n<=cap/\(0<n->∃b o,a=some ⟨b,o,none⟩/\Q b/\CellsAt w b o cs)
theorem SlIn.slAt {Q:Nat->Prop} {w:World} {v:Value} {n:Nat} {cs:List Value} (h:SlIn Q w v n cs):SlAt w v n cs:=by
 obtain⟨a,cap,e,hc,h⟩:=h;exact⟨a,cap,e,hc,fun hn=>by obtain⟨b,o,e2,_,h2⟩:=h hn;exact⟨b,o,e2,h2⟩⟩
theorem SlIn.mono {Q R:Nat->Prop} {w:World} {v:Value} {n:Nat} {cs:List Value} (h:SlIn Q w v n cs) (hq:∀b,Q b->R b):SlIn R w v n cs:=by
 obtain⟨a,cap,e,hc,h⟩:=h;exact⟨a,cap,e,hc,fun hn=>by obtain⟨b,o,e2,h1,h2⟩:=h hn;exact⟨b,o,e2,hq b h1,h2⟩⟩
theorem SlAt.slIn {w:World} {v:Value} {n:Nat} {cs:List Value} (h:SlAt w v n cs):SlIn (fun _=>True) w v n cs:=by
 obtain⟨a,cap,e,hc,h⟩:=h;exact⟨a,cap,e,hc,fun hn=>by obtain⟨b,o,e2,h2⟩:=h hn;exact⟨b,o,e2,trivial,h2⟩⟩
theorem CellsAt.lt {w:World} {b o:Nat} {cs:List Value} (h:CellsAt w b o cs) (h0:cs≠[]):b<w.heap.size:=by
 cases cs with
 | nil=>exact absurd rfl h0
 | cons v l=>exact block_lt_of_cell (h 0 v rfl)
theorem SlIn.turned {Q M:Nat->Prop} {w w':World} {v:Value} {n:Nat} {cs:List Value} (h:SlIn Q w v n cs) (ht:Turn M w w') (hq:∀b,Q b->¬M b) (h0:0<n->cs≠[]):SlIn Q w' v n cs:=by
 obtain⟨a,cap,e,hc,h⟩:=h;refine⟨a,cap,e,hc,fun hn=>?_⟩;obtain⟨b,o,e2,h1,h2⟩:=h hn;exact⟨b,o,e2,h1,h2.same (ht.block b (h2.lt (h0 hn)) (hq b h1))⟩
theorem SlIn.kept {Q:Nat->Prop} {w w':World} {v:Value} {n:Nat} {cs:List Value} (h:SlIn Q w v n cs) (hb:Below w.heap.size w w'):SlIn Q w' v n cs:=by
 obtain⟨a,cap,e,hc,h⟩:=h;exact⟨a,cap,e,hc,fun hn=>by obtain⟨b,o,e2,h1,h2⟩:=h hn;exact⟨b,o,e2,h1,h2.kept hb⟩⟩
theorem World.ownsRow.slIn {w:World} {base:Nat} {e:TypeId} {size:Nat} {v:Value} {n:Nat} {xs:List Value} (h:w.ownsRow base e size v n xs):SlIn (base≤·) w v n xs:=by
 have h':=h.slAt;obtain⟨a,cap,ev,hc,h2⟩:=h';refine⟨a,cap,ev,hc,fun hn=>?_⟩;obtain⟨b,o,e2,h3⟩:=h2 hn;refine⟨b,o,e2,?_,h3⟩;subst ev e2;exact(World.ownsRow.lt h b rfl).1
theorem World.ownsRow.same {w w':World} {base:Nat} {e:TypeId} {size:Nat} {v:Value} {n:Nat} {xs:List Value} (h:w.ownsRow base e size v n xs) (hb:∀g,v.ownBlock=some g->w'.heap[g]?=w.heap[g]?):w'.ownsRow base e size v n xs:=by
 obtain⟨hl,h|⟨g,cap,cur,rfl,h1,h2,h3⟩⟩:=h
 ·exact⟨hl,.inl h⟩
 ·exact⟨hl,.inr ⟨g,cap,cur,rfl,h1,by rw[hb g rfl];exact h2,h3⟩⟩
theorem World.ownsRow.later {w w':World} {base:Nat} {e:TypeId} {size:Nat} {v:Value} {n:Nat} {xs:List Value} (h:w.ownsRow base e size v n xs) (hb:Below w.heap.size w w'):w'.ownsRow base e size v n xs:=
 h.same (fun g hg=>hb.block g (World.ownsRow.lt h g hg).2)
end Go
namespace Go
open Go.Sort Go.RowKit
structure Row where
 e:TypeId
 k:Nat
 v:Value
 n:Nat
 xs:List Value
def Row.blk (r:Row):List Nat:=r.v.ownBlock.toList
structure OwnRows (base:Nat) (w:World) (R:List Row):Prop where
 own:∀r∈R,w.ownsRow base r.e r.k r.v r.n r.xs
 apart:(R.flatMap Row.blk).Nodup
theorem OwnRows.nil (base:Nat) (w:World):OwnRows base w []:=⟨by simp,by simp⟩
theorem OwnRows.mem_blk {base:Nat} {w:World} {R:List Row} (h:OwnRows base w R) {g:Nat} (hg:g∈R.flatMap Row.blk):base<=g/\g<w.heap.size:=by
 obtain⟨r,hr,hgr⟩:=List.mem_flatMap.1 hg;have:r.v.ownBlock=some g:=by unfold Row.blk at hgr;simpa using hgr
 exact World.ownsRow.lt (h.own r hr) g this
theorem OwnRows.turned {base:Nat} {w w':World} {R:List Row} (h:OwnRows base w R) {M:Nat->Prop} (ht:Turn M w w') (hM:∀g,g∈R.flatMap Row.blk->¬M g):OwnRows base w' R:=
 ⟨fun r hr=>(h.own r hr).same (fun g hg=>by
  have hm:g∈R.flatMap Row.blk:=List.mem_flatMap.2 ⟨r,hr,by unfold Row.blk;simp[hg]⟩;exact ht.block g (h.mem_blk hm).2 (hM g hm)),h.apart⟩
theorem OwnRows.kept {base:Nat} {w w':World} {R:List Row} (h:OwnRows base w R) (hb:Below w.heap.size w w'):OwnRows base w' R:=
 h.turned (Turn.of_below (M:=fun _=>False) hb) (fun _ _ h=>h)
theorem OwnRows.setCell {base:Nat} {w:World} {R:List Row} (h:OwnRows base w R) {b o:Nat} {u:Value} (hb:b<base):OwnRows base (w.setCell ⟨b,o,none⟩ u) R:=
 h.turned (M:=fun k=>k=b) ((Turn.refl _ w).setCell (.inl rfl)) (fun g hg e=>by subst e;have:=(h.mem_blk hg).1;omega)
theorem OwnRows.snoc {base:Nat} {w:World} {R:List Row} (h:OwnRows base w R) (e:TypeId) (k:Nat):OwnRows base w (R++[⟨e,k,.slice none 0 0,0,[]⟩]):=by
 refine⟨fun r hr=>?_,?_⟩
 ·rcases List.mem_append.1 hr with hr|hr
  ·exact h.own r hr
  ·simp only[List.mem_singleton]at hr;subst hr;exact World.ownsRow_nil _ _ _ _
 ·have:(R++[⟨e,k,.slice none 0 0,0,[]⟩]:List Row).flatMap Row.blk=R.flatMap Row.blk:=by simp[Row.blk,Value.ownBlock]
  rw[this];exact h.apart
theorem K6 {L:List (List Nat)}:∀{i:Nat} {l l':List Nat},L[i]?=some l->(L.flatMap id).Nodup->l'.Nodup->(∀g∈l',g∈l\/g∉L.flatMap id)->((L.set i l').flatMap id).Nodup:=by
 induction L with
 | nil=>intro i l l' hi;simp at hi
 | cons a L ih=>
  intro i l l' hi hn hl' hg;simp only[List.flatMap_cons,id]at hn hg ⊢;rw[List.nodup_append]at hn
  cases i with
  | zero=>
   simp only[List.getElem?_cons_zero,Option.some.injEq]at hi;subst hi;simp only[List.set_cons_zero,List.flatMap_cons,id];rw[List.nodup_append];refine⟨hl',hn.2.1,fun x hx y hy e=>?_⟩;subst e;rcases hg x hx with h|h
   ·exact hn.2.2 x h x hy rfl
   ·exact h (List.mem_append.2 (.inr hy))
  | succ i=>
   simp only[List.getElem?_cons_succ]at hi;simp only[List.set_cons_succ,List.flatMap_cons,id];rw[List.nodup_append];refine⟨hn.1,ih hi hn.2.1 hl' (fun g h=>?_),fun x hx y hy e=>?_⟩
   ·rcases hg g h with h1|h1
    ·exact .inl h1
    ·exact .inr (fun h2=>h1 (List.mem_append.2 (.inr h2)))
   ·subst e;obtain⟨l2,hl2,hx2⟩:=List.mem_flatMap.1 hy;simp only[id]at hx2;obtain⟨j,hj⟩:=List.mem_iff_getElem?.1 hl2;rw[List.getElem?_set]at hj;split at hj
    ·split at hj
     ·simp only[Option.some.injEq]at hj;subst hj;rcases hg x hx2 with h1|h1
      ·exact hn.2.2 x hx x (List.mem_flatMap.2 ⟨l,List.mem_of_getElem? hi,h1⟩) rfl
      ·exact h1 (List.mem_append.2 (.inl hx))
     ·cases hj
    ·exact hn.2.2 x hx x (List.mem_flatMap.2 ⟨l2,List.mem_of_getElem? hj,hx2⟩) rfl
theorem Fg (R:List Row):R.flatMap Row.blk=(R.map Row.blk).flatMap id:=by induction R<;>simp_all
theorem Q1 {R:List Row} {i:Nat} {r r':Row} (hi:R[i]?=some r) (hn:(R.flatMap Row.blk).Nodup) (hb:∀g∈r'.blk,g∈r.blk\/g∉R.flatMap Row.blk):((R.set i r').flatMap Row.blk).Nodup:=by
 rw[Fg,List.map_set];rw[Fg]at hn hb;refine K6 (l:=r.blk) (by simp[hi]) hn ?_ hb;unfold Row.blk
 cases r'.v.ownBlock<;>simp
theorem OwnRows.others {base:Nat} {w w':World} {R:List Row} (h:OwnRows base w R) {i:Nat} {r:Row} (hi:R[i]?=some r) (hg:w.grownBy w' r.v.ownBlock) {j:Nat} {s:Row} (hj:R[j]?=some s) (hne:i≠j):w'.ownsRow base s.e s.k s.v s.n s.xs:=by
 refine World.ownsRow.kept (h.own s (List.mem_of_getElem? hj)) hg ?_
 cases hs:s.v.ownBlock with
 | none=>exact .inl rfl
 | some g=>
  refine .inr (fun e=>?_);have key:∀(L:List (List Nat)),(L.flatMap id).Nodup->∀(i j:Nat) (a b:List Nat),L[i]?=some a->L[j]?=some b->i≠j->∀g∈a,g∉b:=by
   intro L
   induction L with
   | nil=>intro _ i j a b hi;simp at hi
   | cons l L ih=>
    intro hn i j a b hi hj hne g ha hb;simp only[List.flatMap_cons,id]at hn;rw[List.nodup_append]at hn
    cases i with
    | zero=>
     cases j with
     | zero=>exact hne rfl
     | succ j=>
      simp only[List.getElem?_cons_zero,Option.some.injEq,List.getElem?_cons_succ]at hi hj;subst hi;exact hn.2.2 g ha g (List.mem_flatMap.2 ⟨b,List.mem_of_getElem? hj,hb⟩) rfl
    | succ i=>
     cases j with
     | zero=>
      simp only[List.getElem?_cons_zero,Option.some.injEq,List.getElem?_cons_succ]at hi hj;subst hj;exact hn.2.2 g hb g (List.mem_flatMap.2 ⟨a,List.mem_of_getElem? hi,ha⟩) rfl
     | succ j=>exact ih hn.2.1 i j a b (by simpa using hi) (by simpa using hj) (fun e=>hne (by rw[e])) g ha hb
  have hn:=h.apart;rw[Fg]at hn;exact key _ hn i j r.blk s.blk (by simp[hi]) (by simp[hj]) hne g (by unfold Row.blk;rw[<- e];simp) (by unfold Row.blk;rw[hs];simp)
theorem OwnRows.grown {base:Nat} {w w':World} {R:List Row} (h:OwnRows base w R) {i:Nat} {r r':Row} (hi:R[i]?=some r) (hg:w.grownBy w' r.v.ownBlock) (hown:w'.ownsRow base r'.e r'.k r'.v r'.n r'.xs)
 (hb:r'.v.ownBlock=r.v.ownBlock\/∃g,r'.v.ownBlock=some g/\w.heap.size<=g):OwnRows base w' (R.set i r'):=by
 refine⟨fun s hs=>?_,Q1 hi h.apart (fun g hgr=>?_)⟩
 ·obtain⟨j,hj⟩:=List.mem_iff_getElem?.1 hs;rw[List.getElem?_set]at hj;split at hj
  ·split at hj
   ·simp only[Option.some.injEq]at hj;subst hj;exact hown
   ·cases hj
  ·rename_i hne;exact h.others hi hg hj hne
 ·unfold Row.blk at hgr ⊢;rcases hb with hb|⟨g',hb,hlt⟩
  ·rw[hb]at hgr;exact .inl hgr
  ·rw[hb]at hgr;simp only[Option.toList_some,List.mem_singleton]at hgr;subst hgr;exact .inr (fun hm=>by have:=(h.mem_blk hm).2;omega)
theorem OwnRows.store {base:Nat} {w:World} {R:List Row} (h:OwnRows base w R) {i:Nat} {e k g n cap:Nat} {xs:List Value} (hi:R[i]?=some ⟨e,k,.slice (some ⟨g,0,none⟩) n cap,n,xs⟩) (j:Nat) (u:Value):
 OwnRows base (w.setCell ⟨g,j,none⟩ u) (R.set i ⟨e,k,.slice (some ⟨g,0,none⟩) n cap,n,xs.set j u⟩):=by
 have hown:=h.own _ (List.mem_of_getElem? hi)
 have hg:w.grownBy (w.setCell ⟨g,j,none⟩ u) (some g):=⟨rfl,rfl,rfl,by simp,fun k _ hk=>Below.heap_setCell _ _ _ _ (fun e=>hk (by simp[e]))⟩
 refine h.grown hi hg ?_ (.inl rfl)
 obtain⟨hl,⟨hn,_⟩|⟨g',cap',cur,hv,hb,hblk,h1,h2,h3,h4⟩⟩:=hown
 ·cases hn
 ·cases hv;refine⟨by simpa using hl,.inr ⟨g,cap,cur.setIfInBounds j u,rfl,hb,?_,h1,h2,by simpa using h3,?_⟩⟩
  ·simp[World.setCell,Array.getElem?_modify,hblk]
  ·simp only at h4 ⊢;rw[<- h4,Array.toList_setIfInBounds,List.take_set]
theorem Hi {P:Program} {w:World} {base:Nat} {t ty e:TypeId} {i:TypeInfo} {z:Value} (ht:P.underlying t=some (.slice e)) (hi:P.info? e=some i) (hz:i.zero=some z)
 {v:Value} {n:Nat} {xs:List Value} (hown:w.ownsRow base e i.size v n xs)
 {a:Addr} {m c:Nat} {news:List Value} (hl:news.length=m * i.size) (hnews:∀j u,news[j]?=some u->w.cell? (a.add j)=some u) (h1:∀u∈news,u.oneCell'=true)
 (h63:n+m<=maxLen) (hbytes:(n+m) * i.bytes<=140737488355328) {v':Value} {w':World}
 (hr:(Builtin.append_ #[t,t] ty #[v,.slice (some a) m c]).run P w=.ok v' w'):v'.ownBlock=v.ownBlock\/v'.ownBlock=some w.heap.size:=by
 have hsmall:n+m<=9223372036854775807:=by simp only[maxLen]at h63;omega
 obtain⟨hxl,⟨rfl,rfl⟩|⟨g,cap,cur,rfl,hbg,hg,hnc,hcm,hcs,htake⟩⟩:=id hown
 ·have hx:xs=[]:=List.eq_nil_of_length_eq_zero (by simpa using hxl);subst hx;by_cases hm:m=0
  ·subst hm;have hn:news=[]:=List.eq_nil_of_length_eq_zero (by simpa using hl);subst hn;have:(Builtin.append_ #[t,t] ty #[.slice none 0 0,.slice (some a) 0 c]).run P w=.ok (.slice none 0 0) w:=by
    simp[Builtin.append_,run_underlying ht,sizeOf,typeInfo,hi,Builtin.lenOf,Builtin.firstCells,loadCells,loadCellsFrom]
   rw[this]at hr
   cases hr;exact .inl rfl
  ·have hr2:=run_append_nil (P:=P) w t ty e i z ht hi hz a m c news hl hnews (by omega) (by omega) (by have hb:=hbytes;simp only[Nat.zero_add]at hb;omega);rw[hr2]at hr
   cases hr;exact .inr rfl
 ·by_cases hroom:n+m<=cap
  ·have hfit:n * i.size+news.length<=cur.size:=by rw[hl,hcs,<- Nat.add_mul];exact Nat.mul_le_mul_right _ hroom
   have hr2:=run_append_room (P:=P) w t ty e i ht hi g n cap cur hg a m c news hl hnews h1 hroom hfit;rw[hr2]at hr
   cases hr;exact .inl rfl
  ·have holds:∀j u,xs[j]?=some u->w.cell? ((⟨g,0,none⟩:Addr).add j)=some u:=World.ownsRow.cells hown (g:=g) rfl;have hr2:=run_append_grow (P:=P) w t ty e i z ht hi hz ⟨g,0,none⟩ n cap xs hxl holds a m c news hl hnews (by omega) (by omega) (growslice_fits (by omega) hbytes);rw[hr2]at hr
   cases hr;exact .inr rfl
end Go
