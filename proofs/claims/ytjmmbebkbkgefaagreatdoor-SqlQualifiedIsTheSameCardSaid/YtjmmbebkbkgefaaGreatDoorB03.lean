/- Part 3; the last part says what is proved. No condition. -/
import Derived.Laws.CopyOwn
import Derived.OrdersIn
import Derived.RangeFuncNested
import Derived.RangeFuncCalls
import Derived.RangeFuncLeaves
import Derived.Laws.Rows
import Derived.Laws.Tables
import Derived.BigFrame
import Derived.Test.YtjmmbebkbkgefaaGreatDoorB01
import Derived.Test.YtjmmbebkbkgefaaGreatDoorB02
set_option linter.unusedVariables false
set_option linter.unusedSimpArgs false
namespace Go
open Go.Sort Go.RowKit
section
variable {P:Program} {ops:Array Oper} {md:Region.Mode} {w0:World} {M:Nat->Prop} {Q:Exit->Act->World->Prop}
structure TurnW (M:Nat->Prop) (w0:World) where
 w:World
 h:Turn M w0 w
instance (M:Nat->Prop) (w0:World):Nonempty (TurnW M w0):=⟨⟨w0,Turn.refl _ _⟩⟩
def Oper.mildT (P:Program) (o:Oper) (a:Act) (M:Nat->Prop) (w0:World) (next:Act->Prop):Prop:=∃v,(∀w,(∃p:TurnW M w0,w=p.w)->o.mildAt P a w v)/\next (a.put o.dst v)
def mOpT (P:Program) (ops:Array Oper) (M:Nat->Prop) (w0:World) (Q:Exit->Act->World->Prop) (i:Nat) (K:Act->World->Prop) (a:Act) (wc:World):Prop:=
 match ops[i]? with
 | none=>False
 | some o=>if Region.wanted o (yielded ops a.tmps)then(o.mildT P a M w0 (fun a'=>K a' wc))\/(∀w,Below wc.heap.size wc w->Turn M w0 w->(o.wp P a w (fun a' w'=>Turn M w0 w'/\K a' w') (calm Q)\/(o.asks P a w/\LetsOut Q)))else K (a.put o.dst undef) wc
theorem U3 {i:Nat} {a:Act} {wc:World} {K K':Act->World->Prop} (h:∀a w,K a w->K' a w) (hh:mOpT P ops M w0 Q i K a wc):mOpT P ops M w0 Q i K' a wc:=by
 unfold mOpT at *;split
 ·simp_all
 ·rename_i o ho;simp only[ho]at hh;split
  ·rename_i hw;simp only[hw,if_true]at hh;rcases hh with⟨v,h1,h2⟩|hh
   ·exact .inl ⟨v,h1,h _ _ h2⟩
   ·exact .inr fun w h1 h2=>(hh w h1 h2).imp (Oper.wp_mono fun a w h3=>⟨h3.1,h _ _ h3.2⟩) id
  ·rename_i hw;simp only[hw]at hh;exact h _ _ hh
theorem Mi {i:Nat} {a:Act} {wc w:World} {K K':Act->World->Prop} (h1:Below wc.heap.size wc w) (h2:Turn M w0 w)
 (h:∀a wc' w',Below wc'.heap.size wc' w'->Turn M w0 w'->K a wc'->K' a w') (hh:mOpT P ops M w0 Q i K a wc):wpOp P ops Q i K' a w:=by
 unfold mOpT at hh
 unfold wpOp
 split
 ·simp_all
 ·rename_i o ho;simp only[ho]at hh;split
  ·rename_i hw;simp only[hw,if_true]at hh;rcases hh with⟨v,h3,h4⟩|hh
   ·have h5:=h3 w ⟨⟨w,h2⟩,rfl⟩;refine .inl ?_;unfold Oper.mildAt at h5;unfold Oper.wp;generalize (execOp a.eval o).run P w=r at *
    cases r with
    | ok n w'=>
     cases n<;>simp only[Oper.mildUpon]at h5<;>simp only[Oper.upon]
     case value u=>obtain⟨e1,e2⟩:=h5;rw[e1,e2];exact h _ _ _ h1 h2 h4
     case skip=>obtain⟨e1,e2⟩:=h5;rw[e1,<- e2];exact h _ _ _ h1 h2 h4
     case enter f args=>
      obtain⟨e1,hc⟩:=h5;rw[e1];exact hc.mono fun e w'' ⟨he,hw''⟩=>by subst he;exact h _ _ _ (h1.step hw'') (h2.step hw'') h4
    | halt x w'=>simp only[Oper.mildUpon]at h5
   ·exact(hh w h1 h2).imp (Oper.wp_calm fun a' w' h3=>h _ _ _ (Below.refl _ _) h3.1 h3.2) id
  ·rename_i hw;simp only[hw]at hh;exact h _ _ _ h1 h2 hh
def YMT (P:Program) (ops:Array Oper) (M:Nat->Prop) (w0:World) (o:Oper) (v:Value) (a:Act):Prop:=
 (Region.wanted o (yielded ops a.tmps)=true/\∀w,(∃p:TurnW M w0,w=p.w)->o.mildAt P a w v)\/(Region.wanted o (yielded ops a.tmps)=false/\v=undef)
theorem YMT.mOp {i:Nat} {o:Oper} {v:Value} {a:Act} (hi:ops[i]?=some o) (hy:YMT P ops M w0 o v a) {K:Act->World->Prop} {wc:World} (h:K (a.put o.dst v) wc):mOpT P ops M w0 Q i K a wc:=by
 unfold Go.mOpT;simp only[hi];rcases hy with⟨hw,hv⟩|⟨hw,rfl⟩
 ·simp only[hw,if_true];exact .inl ⟨v,hv,h⟩
 ·simp only[hw,Bool.false_eq_true,if_false];exact h
theorem YMT.of_same {o:Oper} {v:Value} {a a':Act} (hy:YMT P ops M w0 o v a) (he:execOp a'.eval o=execOp a.eval o)
 (hw:Region.wanted o (yielded ops a'.tmps)=Region.wanted o (yielded ops a.tmps)):YMT P ops M w0 o v a':=by
 unfold YMT Oper.mildAt at *
 rw[he,hw]
 exact hy
theorem Xt {j:Nat} {oi oj:Oper} {v:Value} (hj:ops[j]?=some oj) (hap:oi.apart ops oj=true)
 (hsi:∀cs b,oi.op≠.select cs b) (hsj:∀cs b,oj.op≠.select cs b) {K:Act->World->Prop} {a:Act} {wc:World}
 (hy:YMT P ops M w0 oi v a) (h:mOpT P ops M w0 Q j K (a.put oi.dst v) wc):
 mOpT P ops M w0 Q j (fun a' wc'=>YMT P ops M w0 oi v a'/\K (a'.put oi.dst v) wc') a wc:=by
 obtain⟨h1,h2,h3⟩:=Oper.apart_spec hap
 have keep:∀(a:Act),YMT P ops M w0 oi v a->∀u,YMT P ops M w0 oi v (a.put oj.dst u):=fun a hy u=>
  hy.of_same (execOp_put oi hsi a oj.dst u h3) (wanted_put oi a oj.dst u h3)
 have keepD:∀d,YMT P ops M w0 oi v {a with defers:=d::a.defers}:=fun d=>hy.of_same rfl rfl
 unfold mOpT at *
 simp only[hj]at *
 rw[wanted_put oj a oi.dst v h1]at h
 split
 ·rename_i hw;simp only[hw,if_true]at h;rcases h with⟨u,hu,hn⟩|h
  ·refine .inl ⟨u,fun w hw'=>?_,keep a hy u,by rw[<- Act.put_comm a v u h2];exact hn⟩
   have:=hu w hw'
   unfold Oper.mildAt at *
   rwa [execOp_put oj hsj a oi.dst v h1]at this
  ·refine .inr fun w hw1 hw2=>?_;rcases h w hw1 hw2 with h|⟨hasks,hlets⟩
   case inr=>exact .inr ⟨by unfold Oper.asks at *;rw[execOp_put oj hsj a oi.dst v h1]at hasks;exact hasks,hlets⟩
   refine .inl ?_;unfold Oper.wp at *;rw[execOp_put oj hsj a oi.dst v h1]at h;generalize (execOp a.eval oj).run P w=r at *
   cases r with
   | ok n w'=>
    cases n<;>simp only[Oper.upon]at h ⊢
    case value u=>exact⟨h.1,keep a hy u,by rw[<- Act.put_comm a v u h2];exact h.2⟩
    case skip=>exact⟨h.1,keep a hy _,by rw[<- Act.put_comm a v undef h2];exact h.2⟩
    case defer d=>
     refine⟨h.1,keep _ (keepD d) _,?_⟩;rw[<- Act.put_comm _ v undef h2,<- Act.put_defers];exact h.2
    case enter f args=>
     refine Calls.mono h fun e w'' he=>?_
     cases e with
     | returned u=>exact⟨he.1,keep a hy u,by rw[<- Act.put_comm a v u h2];exact he.2⟩
     | panicked c=>exact absurd he.1 (by simp)
     | outgrown=>exact he
    case row row args=>exact Rows.mono h fun u w'' he=>⟨he.1,keep a hy u,by rw[<- Act.put_comm a v u h2];exact he.2⟩
   | halt x w'=>
    cases x<;>simp only[Oper.upon]at h ⊢
    case panic u=>exact absurd h.1 (by simp)
 ·rename_i hw;simp only[hw]at h;exact⟨keep a hy _,by rw[<- Act.put_comm a v undef h2];exact h⟩
def wpAMT (P:Program) (md:Region.Mode) (ops:Array Oper) (M:Nat->Prop) (w0:World) (Q:Exit->Act->World->Prop) (n:Nat) (L:Array Bool->Act->World->Prop):Nat->Array Bool->Act->World->Prop
 | 0,listed,a,wc=>L listed a wc
 | f+1,listed,a,wc=>
  Region.ready md ops listed≠[]/\∀i∈Region.ready md ops listed,i<n/\mOpT P ops M w0 Q i (wpAMT P md ops M w0 Q n L f (listed.setIfInBounds i true)) a wc
theorem G1 {n g:Nat} {L:Array Bool->Act->World->Prop} (hL:∀listed a wc w,Below wc.heap.size wc w->Turn M w0 w->L listed a wc->wpAny P md ops Q g listed a w):
 ∀(f:Nat) (listed:Array Bool) (a:Act) (wc w:World),Below wc.heap.size wc w->Turn M w0 w->wpAMT P md ops M w0 Q n L f listed a wc->wpAny P md ops Q (f+g) listed a w
 | 0,listed,a,wc,w,h1,h2,h=>by rw[Nat.zero_add];exact hL _ _ _ _ h1 h2 h
 | f+1,listed,a,wc,w,h1,h2,h=>by
  rw[show f+1+g=(f+g)+1 by omega];exact⟨fun h0=>absurd h0 h.1,fun i hi=>Mi h1 h2 (fun a' wc' w' h3 h4 h5=>G1 hL f _ a' wc' w' h3 h4 h5) (h.2 i hi).2⟩
theorem Nl {n i:Nat} {oi:Oper} {v:Value} {L:Array Bool->Act->World->Prop} (hi:ops[i]?=some oi) (hsel:∀(j:Nat) (o:Oper) cs b,ops[j]?=some o->o.op≠.select cs b)
 (hw:TailWaits md ops n) (hin:i<n)
 (hdone:∀listed a wc,L listed a wc->∀j∈Region.ready md ops listed,n<=j):
 ∀(f:Nat) (listed:Array Bool) (a:Act) (wc:World),HeadInv md ops n listed ->
  (∀j oj,ops[j]?=some oj->j≠i->listed.getD j true=false->(∀e∈oj.after,Region.binds md e=true->e.on≠i)->oi.apart ops oj=true) ->
  i∈Region.ready md ops listed->YMT P ops M w0 oi v a ->
  wpAMT P md ops M w0 Q n L f (listed.setIfInBounds i true) (a.put oi.dst v) wc->wpAMT P md ops M w0 Q n L (f+1) listed a wc:=by
 intro f
 induction f with
 | zero=>
  intro listed a wc inv _ hr hy H;have hun:=(mem_ready.1 hr).1;refine⟨fun h=>(by rw[h]at hr;cases hr),fun j hj=>?_⟩;have hjn:j<n:=by
   rcases Nat.lt_or_ge j n with h|h
   ·exact h
   ·exact absurd hj (hw listed inv i hin hun j h)
  refine⟨hjn,?_⟩;by_cases hji:j=i
  ·subst hji;exact hy.mOp hi H
  ·have:=hdone _ _ _ H j (ready_mono hj hji);omega
 | succ f ih=>
  intro listed a wc inv hfree hr hy H;have hun:=(mem_ready.1 hr).1;refine⟨fun h=>(by rw[h]at hr;cases hr),fun j hj=>?_⟩;have hjn:j<n:=by
   rcases Nat.lt_or_ge j n with h|h
   ·exact h
   ·exact absurd hj (hw listed inv i hin hun j h)
  refine⟨hjn,?_⟩;by_cases hji:j=i
  ·subst hji;exact hy.mOp hi H
  ·have h1:=(H.2 j (ready_mono hj hji)).2;obtain⟨hjun,oj,hoj,hall⟩:=mem_ready.1 hj;have hnot:∀e∈oj.after,Region.binds md e=true->e.on≠i:=fun e he hb heq=>by
    have h1:=hall e he hb;rw[heq,getD_both hun]at h1
    cases h1
   have h2:=Xt hoj (hfree j oj hoj hji hjun hnot) (fun cs b=>hsel i oi cs b hi) (fun cs b=>hsel j oj cs b hoj) hy h1;have hfree':∀k ok,ops[k]?=some ok->k≠i->(listed.setIfInBounds j true).getD k true=false ->
    (∀e∈ok.after,Region.binds md e=true->e.on≠i)->oi.apart ops ok=true:=fun k ok hk hki hun hno=>by
    refine hfree k ok hk hki ?_ hno
    by_cases hjk:j=k
    ·subst hjk;exact hjun
    ·rw[getD_set_ne true hjk]at hun;exact hun
   refine U3 (fun a' wc' h3=>ih (listed.setIfInBounds j true) a' wc' (inv.set hj hjn) hfree' (ready_mono hr (Ne.symm hji)) h3.1 ?_) h2;rw[Array.setIfInBounds_comm _ _ hji];exact h3.2
def wpMT (P:Program) (ops:Array Oper) (M:Nat->Prop) (w0:World) (Q:Exit->Act->World->Prop) (tail:List Oper):List (Nat×Bool)->Act->World->Prop
 | [],a,wc=>∀w,Below wc.heap.size wc w->Turn M w0 w->wpList P ops Q tail a w
 | (k,false)::r,a,wc=>∃o,ops[k]?=some o/\if Region.wanted o (yielded ops a.tmps)then o.mildT P a M w0 (fun a'=>wpMT P ops M w0 Q tail r a' wc)else wpMT P ops M w0 Q tail r (a.put o.dst undef) wc
 | (k,true)::r,a,wc=>∃o,ops[k]?=some o/\∀w,Below wc.heap.size wc w->Turn M w0 w ->
  wpList P ops (Exit.then (fun a' w'=>Turn M w0 w'/\wpMT P ops M w0 Q tail r a' w') (calm Q)) [o] a w
theorem Cg {n g:Nat} {tail:List Oper} (hsel:Region.noSelect ops=true) (hw:TailWaits md ops n):
 ∀(r:List (Nat×Bool)) (listed:Array Bool) (a:Act) (wc:World),HeadInv md ops n listed->Region.mixB md ops g n r listed=true->wpMT P ops M w0 Q tail r a wc ->
 wpAMT P md ops M w0 Q n (fun listed' a' wc'=>Region.seqB md ops g n listed'=true/\∀w,Below wc'.heap.size wc' w->Turn M w0 w->wpList P ops Q tail a' w) r.length listed a wc
 | [],listed,a,wc,_,hB,h=>⟨by simpa[Region.mixB]using hB,h⟩
 | (k,false)::r,listed,a,wc,inv,hB,h=>by
  obtain⟨o,h0,h⟩:=h;simp only[Region.mixB,Bool.and_eq_true,decide_eq_true_eq]at hB;obtain⟨⟨⟨hr,hf⟩,hkn⟩,hB'⟩:=hB;have hr':k∈Region.ready md ops listed:=by simpa using hr
  obtain⟨v,hy,hK⟩:∃v,YMT P ops M w0 o v a/\wpMT P ops M w0 Q tail r (a.put o.dst v) wc:=by
   by_cases hwt:Region.wanted o (yielded ops a.tmps)=true
   ·rw[if_pos hwt]at h;obtain⟨v,h1,h2⟩:=h;exact⟨v,.inl ⟨hwt,h1⟩,h2⟩
   ·rw[if_neg hwt]at h;exact⟨undef,.inr ⟨by simpa using hwt,rfl⟩,h⟩
  exact Nl h0 (Region.noSelect_spec hsel) hw hkn (fun listed' a' wc' hL=>seqB_ready hL.1) r.length listed a wc inv (Region.free_spec h0 hf) hr' hy
   (Cg hsel hw r _ _ _ (inv.set hr' hkn) hB' hK)
 | (k,true)::r,listed,a,wc,inv,hB,h=>by
  obtain⟨o,h0,h⟩:=h;simp only[Region.mixB,Bool.and_eq_true,decide_eq_true_eq]at hB;obtain⟨⟨⟨hr,hkn⟩,hgd⟩,hB'⟩:=hB;have hr':k∈Region.ready md ops listed:=by rw[hr];simp
  have hgd':o.guard=none:=by rw[h0]at hgd;simpa using hgd
  refine⟨by rw[hr];simp,fun j hj=>?_⟩;rw[hr]at hj;have hjk:j=k:=by simpa using hj
  subst hjk;refine⟨hkn,?_⟩;have hwt:∀a:Act,Region.wanted o (yielded ops a.tmps)=true:=fun a=>by simp[Region.wanted,hgd']
  unfold mOpT;simp only[h0,hwt a,if_true];refine .inr fun w h1 h2=>?_;have h3:=h w h1 h2;simp only[wpList,hwt a,if_true]at h3;rcases h3 with h3|h3
  ·refine .inl ?_;unfold Oper.wp at *;generalize (execOp a.eval o).run P w=r' at *
   cases r' with
   | ok nx w'=>
    cases nx<;>simp only[Oper.upon]at h3 ⊢
    case value u=>exact⟨h3.1,Cg hsel hw r _ _ _ (inv.set hr' hkn) hB' h3.2⟩
    case skip=>exact⟨h3.1,Cg hsel hw r _ _ _ (inv.set hr' hkn) hB' h3.2⟩
    case defer d=>exact⟨h3.1,Cg hsel hw r _ _ _ (inv.set hr' hkn) hB' h3.2⟩
    case enter f args=>
     refine Calls.mono h3 fun e w'' he=>?_
     cases e with
     | returned u=>exact⟨he.1,Cg hsel hw r _ _ _ (inv.set hr' hkn) hB' he.2⟩
     | panicked c=>exact he
     | outgrown=>obtain⟨a1,w1,h4⟩:=he;exact⟨a1,w1,h4⟩
    case row row args=>exact Rows.mono h3 fun u w'' he=>⟨he.1,Cg hsel hw r _ _ _ (inv.set hr' hkn) hB' he.2⟩
   | halt x w'=>
    cases x<;>simp only[Oper.upon]at h3 ⊢
    case panic u=>exact h3
  ·obtain⟨h3,a1,w1,h4⟩:=h3;exact .inr ⟨h3,a1,w1,h4.2⟩
theorem Ay (M:Nat->Prop) {id:Nat} {a:Act} {w:World} {l:List Oper} (n:Nat) (r:List (Nat×Bool)) (hm:P.follows .mixedOrders=true) (hB:Region.mixedB .any l.toArray n r=true)
 (h:wpMT P l.toArray M w Q (l.drop n) r a w):(Code.region id l.toArray true).wp P Q a w:=by
 simp only[Region.mixedB,Bool.and_eq_true,decide_eq_true_eq,Bool.or_eq_true]at hB
 obtain⟨⟨⟨⟨hsel,hn⟩,hrl⟩,hs⟩,hmix⟩:=hB
 have hdl:(l.drop n).length=l.toArray.size - n:=by simp
 have hw:TailWaits .any l.toArray n:=by
  rcases hs with hs|⟨hs,hc⟩
  ·intro listed _ i _ _ t ht hr;obtain⟨_,o,ho,_⟩:=mem_ready.1 hr;have:=(Array.getElem?_eq_some_iff.1 ho).1;omega
  ·intro listed inv i hi hun t ht;by_cases hn':n<l.toArray.size
   ·exact tail_waits hs hc hn' inv _ i rfl hi hun t ht
   ·intro hr;obtain⟨_,o,ho,_⟩:=mem_ready.1 hr;have:=(Array.getElem?_eq_some_iff.1 ho).1;omega
 have inv0:HeadInv .any l.toArray n (Array.replicate l.toArray.size false):=
  ⟨by simp,fun j oj _ hl=>(by rw[getD_replicate_false]at hl;cases hl),fun t _ ht=>getD_in (by simpa using ht) (getD_replicate_false _ _)⟩
 have H:=Cg (md:=.any) (g:=l.toArray.size - n) hsel hw r _ a w inv0 hmix h
 refine wp_region_any hm ?_
 have hd:Below w.heap.size w {w with drawn:=w.drawn+1}:=⟨rfl,rfl,rfl,Nat.le_refl _,fun _ _=>rfl⟩
 have hdT:Turn M w {w with drawn:=w.drawn+1}:=Turn.of_below hd
 have:=G1 (Q:=Q) (g:=l.toArray.size - n) (fun listed a' wc w' h1 h2 hL=>by
  have:=wpAny_of_seq (md:=.any) (Q':=Q) (l.drop n) n listed a' w' (fun j=>by simp[List.getElem?_drop]) (by rw[hdl];exact hL.1) (hL.2 w' h1 h2)
  rwa [hdl]at this) _ _ _ _ _ hd hdT H
 rw[hrl,show n+(l.toArray.size - n)=l.toArray.size by omega]at this
 exact this
theorem A0 {l:List Oper} {tail:List Oper} {k:Nat} {r:List (Nat×Bool)} {a:Act} {wc:World} {o:Oper} (ho:l[k]?=some o)
 (h:∀K:Act->Prop,(∀a',wpMT P l.toArray M w0 Q tail r a' wc->K a')->if Region.wanted o (yielded l.toArray a.tmps)then o.mildT P a M w0 K else K (a.put o.dst undef)):wpMT P l.toArray M w0 Q tail ((k,false)::r) a wc:=
 ⟨o,by simpa using ho,h _ (fun _ h=>h)⟩
theorem A7 {l:List Oper} {tail:List Oper} {k:Nat} {r:List (Nat×Bool)} {a:Act} {wc:World} {o:Oper} (ho:l[k]?=some o)
 (h:∀w,Below wc.heap.size wc w->Turn M w0 w->wpList P l.toArray (Exit.then (fun a' w'=>Turn M w0 w'/\wpMT P l.toArray M w0 Q tail r a' w') (calm Q)) [o] a w):wpMT P l.toArray M w0 Q tail ((k,true)::r) a wc:=
 ⟨o,by simpa using ho,h⟩
theorem B3 {tail:List Oper} {a:Act} {wc:World} (h:∀w,Below wc.heap.size wc w->Turn M w0 w->wpList P ops Q tail a w):wpMT P ops M w0 Q tail [] a wc:=h
theorem Ni {a:Act} {wc:World} (h:∀w,Below wc.heap.size wc w->Turn M w0 w->Q .normal a w):wpMT P ops M w0 Q [] [] a wc:=h
end
attribute [go_sem] Oper.mildT
end Go
namespace Go
open Go.Sort Go.RowKit
theorem Pu (b o j:Nat):(⟨b,o,none⟩:Addr).add j=⟨b,o+j,none⟩:=by unfold Addr.add;split<;>simp_all
variable {P:Program}
end Go
namespace Go
open Go.Sort Go.RowKit
section
variable {P:Program} {ops:Array Oper} {md:Region.Mode} {Q:Exit->Act->World->Prop} {l n:Nat}
def roundEnd (l:Nat) (rc:LoopState->Option Code->Loop) (R:Ending->World->Prop):Exit->Act->World->Prop
 | .normal,_,W=>W.heap[l]?=some (.loop (rc .busy none))/\R (.returned (.bool true)) (W.putObj l (.loop (rc .ready none)))
 | .ret,_,W=>W.heap[l]?=some (.loop (rc .busy none))/\R (.returned (.bool false)) (W.putObj l (.loop (rc .done (some .ret))))
 | _,_,_=>False
theorem Ew {g:Operand} {ps:Array Tmp} {assign body:Code} {a:Act} {w:World} {nn:Nat} (hn:1<=nn) {gf:Nat} {lb:Array Value} (hg:a.eval g=.func (.func gf) #[] lb)
 (eg:∀args w,(callFunc gf args).run P w=.ok (.enter gf args) w) (Done Left:(LoopState->Option Code->Loop)->World->Prop)
 (hcall:∀(rc:LoopState->Option Code->Loop),
  (∀(W:World) (args:Array Value) (R:Ending->World->Prop),W.heap[w.heap.size+1]?=some (.loop (rc .ready none))->args.size=ps.size ->
   assign.wpIn (Fence.wide.inRound (w.heap.size+1)) (nn - 1 - 1) P (Exit.then (fun a1 W1=>W1.heap[w.heap.size+1]?=some (.loop (rc .ready none))/\
    body.wpIn (Fence.wide.inRound (w.heap.size+1)) (nn - 1 - 1) P (roundEnd (w.heap.size+1) rc R) a1 (W1.putObj (w.heap.size+1) (.loop (rc .busy none)))) (fun _ _ _=>False))
    {tmps:=(ps.zip args).foldl (fun t (p,v)=>t.setIfInBounds p v) a.tmps,defers:=[]} W ->
   YieldAt Fence.wide (nn - 1 - 1) P (w.heap.size+1) args W R) ->
  CallsIn Fence.wide (nn - 1) P gf (#[.func (.yield (w.heap.size+1)) #[] #[]]++lb) ((w.alloc (.deferred (some []))).alloc (.loop (rc .ready none))) fun e W2=>
   (∃v,e=.returned v)/\((Done rc W2/\W2.heap[w.heap.size+1]?=some (.loop (rc .ready none)))\/(Left rc W2/\W2.heap[w.heap.size+1]?=some (.loop (rc .done (some .ret))))))
 (hdone:∀rc W o,Done rc W->W.heap[w.heap.size+1]?=some (.loop (rc .ready none))->Q .normal {a with defers:={target:=.collected w.heap.size,args:=#[]}::a.defers} (W.putObj (w.heap.size+1) (.loop o)))
 (hleft:∀rc W o,Left rc W->W.heap[w.heap.size+1]?=some (.loop (rc .done (some .ret)))->Code.ret.wpIn Fence.wide nn P Q {a with defers:={target:=.collected w.heap.size,args:=#[]}::a.defers} (W.putObj (w.heap.size+1) (.loop o))):
 (Code.rangeFunc g ps assign body).wpIn Fence.wide nn P Q a w:=by
 refine wpIn_rangeFunc ?_
 intro fn hfn
 rw[show Fence.wide.round=none from rfl]
 obtain⟨rc,hrc⟩:∃rc:LoopState->Option Code->Loop,rc=fun st pe=>{state:=st,pending:=pe,fn,tmps:=a.tmps,params:=ps,assign,body,defers:=w.heap.size}:=⟨_,rfl⟩
 have hc:=hcall rc (fun W args R hl hs hw=>by
  have hy:=run_yield (P:=P) (args:=args) hl (by rw[hrc];exact hs);rw[hrc]at hy;refine⟨fn,_,assign,body,hy,roundIn_of_wpIn hfn ?_⟩;refine wpIn_mono hw ?_;rintro e a1 W1 h1
  cases e with
  | normal=>
   obtain⟨hl1,hb⟩:=h1;have hb1:=run_beginRound (P:=P) hl1 (by rw[hrc]);have e1:({rc .ready none with state:=.busy}:Loop)=rc .busy none:=by rw[hrc]
   rw[e1]at hb1;refine⟨_,hb1,wpIn_mono hb ?_⟩;rintro e a3 W3 h3
   cases e with
   | normal=>
    obtain⟨hl3,hR⟩:=h3;have:=run_endRound (P:=P) none hl3;have e2:({rc .busy none with state:=if(none:Option Code).isNone then .ready else .done,pending:=none}:Loop)=rc .ready none:=by rw[hrc];rfl
    rw[e2]at this;exact⟨_,_,this,hR⟩
   | ret=>
    obtain⟨hl3,hR⟩:=h3;have:=run_endRound (P:=P) (some .ret) hl3;have e2:({rc .busy none with state:=if(some Code.ret).isNone then .ready else .done,pending:=some .ret}:Loop)=rc .done (some .ret):=by rw[hrc];rfl
    rw[e2]at this;exact⟨_,_,this,hR⟩
   | exit id=>exact h3.elim
   | goto t=>exact h3.elim
   | panic c=>exact h3.elim
   | outgrown=>exact h3.elim
  | exit id=>exact h1.elim
  | goto t=>exact h1.elim
  | ret=>exact h1.elim
  | panic c=>exact h1.elim
  | outgrown=>exact h1.elim)
 refine⟨w.heap.size+1,[{target:=.collected w.heap.size,args:=#[]}],(w.alloc (.deferred (some []))).alloc (.loop (rc .ready none)),{target:=.fn (.func gf) lb,args:=#[.func (.yield (w.heap.size+1)) #[] #[]]},(w.alloc (.deferred (some []))).alloc (.loop (rc .ready none)),gf,
  #[.func (.yield (w.heap.size+1)) #[] #[]]++lb,(w.alloc (.deferred (some []))).alloc (.loop (rc .ready none)),?_,?_,?_,?_,fun _=>hn,?_⟩
 ·rw[hrc];exact run_enterLoop_outer _ _ _ _ _
 ·simp only[resolve,hg];simp[go_sem]
 ·intro f' _;exact trivial
 ·simp[invoke,go_sem,eg]
 ·refine hc.mono ?_;rintro e W2 ⟨⟨v,rfl⟩,(⟨hD,hl⟩|⟨hL,hl⟩)⟩
  ·exact⟨none,_,by have:=run_endLoop (P:=P) hl (by rw[hrc];simp);rw[hrc]at this;exact this,hdone rc _ _ hD hl⟩
  ·exact⟨some .ret,_,by have:=run_endLoop (P:=P) hl (by rw[hrc];simp);rw[hrc]at this;exact this,hleft rc _ _ hL hl⟩
theorem Turn.putObj (W:World) (l:Nat) (o:Obj):Turn (fun k=>k=l) W (W.putObj l o):=⟨rfl,rfl,rfl,by simp,fun _ _ hk=>World.putObj_heap_other hk⟩
theorem St.turned {w W W':World} {L:List Blk} {M:Nat->Prop} (h:St w W L) (k:Turn M W W') (hM:∀i,M i->w.heap.size<=i) (ha:∀x∈L,¬M x.1):St w W' L:=
 ⟨⟨k.os.trans h.below.os,k.tape.trans h.below.tape,k.output.trans h.below.output,Nat.le_trans h.below.size k.size,fun i hi=>(k.block i (Nat.lt_of_lt_of_le hi h.below.size) (fun hm=>by have:=hM i hm;omega)).trans (h.below.block i hi)⟩,
  fun x hx=>⟨(h.own x hx).1,(k.block x.1 (Array.getElem?_eq_some_iff.1 (h.own x hx).2).1 (ha x hx)).trans (h.own x hx).2⟩,h.apart⟩
theorem St.sub {w W:World} {L L':List Blk} (h:St w W L) (hs:L'.Sublist L):St w W L':=⟨h.below,fun x hx=>h.own x (hs.subset hx),h.apart.sublist (hs.map _)⟩
theorem St.genIn {F:Fence} {nn:Nat} {c:Code} {a:Act} {w0 w:World} {L:List Blk} (h:St w0 w L) (k:∀W,Hid (St w0 W L)->Code.wpIn F nn P c Q a W):Code.wpIn F nn P c Q a w:=k w h
end
end Go
namespace Go
open Go.Sort Go.RowKit
theorem Bn {w:World} {b:Nat} {cs old:Array Value} {t:TypeId} {fr:Nat×Nat} (h:w.heap[b]?=some (.cells old t fr)):(w.setRow b cs).heap[b]?=some (.cells cs t fr):=by
 simp[World.setRow,Array.getElem?_modify,h]
theorem Ap {w:World} {b k:Nat} {cs:Array Value} (h:k≠b):(w.setRow b cs).heap[k]?=w.heap[k]?:=by
 simp[World.setRow,Array.getElem?_modify,Ne.symm h]
theorem Turn.setRow {M:Nat->Prop} {w w':World} (h:Turn M w w') {b:Nat} {cs:Array Value} (hb:M b\/w.heap.size<=b):Turn M w (w'.setRow b cs):=
 ⟨h.os,h.tape,h.output,by have:=h.size;simp[World.setRow];omega,fun k hk hm=>by
  rw[Ap (fun e=>by subst e;rcases hb with hb|hb;exact hm hb;omega)];exact h.block k hk hm⟩
theorem StM.row {M:Nat->Prop} {w0 w:World} {L:List Blk} (i:Nat) {b:Nat} {cs:Array Value} {t:TypeId} (vs:Array Value) (h:StM M w0 w L) (hi:L[i]?=some (b,cs,t)):StM M w0 (w.setRow b vs) (L.set i (b,vs,t)):=by
 have ho:=h.own _ (List.mem_of_getElem? hi);refine⟨h.turn.setRow ho.1,fun x hx=>?_,?_⟩
 ·obtain⟨j,hj⟩:=List.mem_iff_getElem?.1 hx;rw[List.getElem?_set]at hj;split at hj
  ·split at hj
   ·cases hj;exact⟨ho.1,Bn ho.2⟩
   ·cases hj
  ·rename_i hne;have hox:=h.own x (List.mem_of_getElem? hj);exact⟨hox.1,by rw[Ap (Ne.symm (Fu h.apart hi hj hne))];exact hox.2⟩
 ·have e:(L.set i (b,vs,t)).map (·.1)=L.map (·.1):=by
   rw[List.map_set];have h1:(L.map (·.1))[i]?=some b:=by simp[hi]
   apply List.ext_getElem?;intro j;rw[List.getElem?_set];split
   ·rename_i e;subst e;rw[h1,if_pos (by simpa using(List.getElem?_eq_some_iff.1 hi).1)]
   ·rfl
  rw[e];exact h.apart
theorem StM.toSt {w W:World} {L:List Blk} {M:Nat->Prop} (h:StM M w W L) (hM:∀k,k<w.heap.size->¬M k) (hL:∀x∈L,w.heap.size<=x.1):St w W L:=
 ⟨⟨h.turn.os,h.turn.tape,h.turn.output,h.turn.size,fun k hk=>h.turn.block k hk (hM k hk)⟩,fun x hx=>⟨hL x hx,(h.own x hx).2⟩,h.apart⟩
theorem St.toM {w W:World} {L:List Blk} (M:Nat->Prop) (h:St w W L):StM M w W L:=⟨Turn.of_below h.below,fun x hx=>⟨.inr (h.own x hx).1,(h.own x hx).2⟩,h.apart⟩
theorem St.row {w0 w:World} {L:List Blk} (i:Nat) {b:Nat} {cs:Array Value} {t:TypeId} (vs:Array Value) (h:St w0 w L) (hi:L[i]?=some (b,cs,t)):St w0 (w.setRow b vs) (L.set i (b,vs,t)):=by
 refine StM.toSt (StM.row i vs (St.toM (fun _=>False) h) hi) (fun k _ h=>h) (fun x hx=>?_);obtain⟨j,hj⟩:=List.mem_iff_getElem?.1 hx;rw[List.getElem?_set]at hj;split at hj
 ·split at hj
  ·cases hj;exact(h.own _ (List.mem_of_getElem? hi)).1
  ·cases hj
 ·exact(h.own x (List.mem_of_getElem? hj)).1
section
variable {P:Program} {ops:Array Oper} {rest:List Oper} {o:Oper} {a:Act} {w:World} {Q:Exit->Act->World->Prop}
theorem B4 (hw:Region.wanted o (yielded ops a.tmps)=true) (ty:TypeId) (x:Operand) (ho:o.op=.load ty x)
 (g:Nat) (hx:a.eval x=.pointer (some ⟨g,0,none⟩)) (t:TypeId) (cs:Array Value) (fr:Nat×Nat) (d:TypeDesc) (hg:w.heap[g]?=some (.cells cs t fr))
 (hu:P.underlying ty=some d) (hd:(match d with|.struct _|.array _ _=>true|_=>false)=true) (hi:(P.info? ty).map (·.size)=some cs.size)
 (h:wpList P ops Q rest (a.put o.dst (.agg cs)) w):wpList P ops Q (o::rest) a w:=
 BigFrame.wpList_want hw fun _ hK=>wp_load_row ty x ho g hx t cs fr d hg hu hd hi (hK _ _ h)
theorem A5 (hg:o.guard=none) (t:TypeId) (parts:Array (Nat×Operand)) (ho:o.op=.build t parts) (cs:Array Value)
 (hf:P.built t (parts.map fun(i,x)=>(i,a.eval x)).toList=some cs)
 (h:wpList P ops Q rest (a.put o.dst (.agg cs)) w):wpList P ops Q (o::rest) a w:=by
 refine wpList_build hg t parts ho (by rw[hf];rfl) ?_
 rw[hf];exact h
end
end Go
namespace Go
open Go.Sort Go.RowKit
section
variable {P:Program} {ops:Array Oper} {rest:List Oper} {o:Oper} {a:Act} {w:World} {Q:Exit->Act->World->Prop}
theorem Fb {M:Nat->Prop} {w0:World} {next:Act->Prop} (ty:TypeId) (x:Operand) (ho:o.op=.load ty x)
 (g:Nat) (hx:a.eval x=.pointer (some ⟨g,0,none⟩)) (t:TypeId) (cs:Array Value) (fr:Nat×Nat) (d:TypeDesc) (hg:∀p:TurnW M w0,p.w.heap[g]?=some (.cells cs t fr))
 (hu:P.underlying ty=some d) (hd:(match d with|.struct _|.array _ _=>true|_=>false)=true) (hi:(P.info? ty).map (·.size)=some cs.size)
 (h:next (a.put o.dst (.agg cs))):o.mildT P a M w0 next:=by
 refine⟨.agg cs,?_,h⟩
 rintro w ⟨p,rfl⟩
 unfold Oper.mildAt execOp
 simp only[ho,hx,Instr.loadAt,Instr.sureAddr,Sem.run_bind,Sem.run_pure,Result.andThen_ok,run_loadVar_row p.w g t ty cs fr d (hg p) hu hd hi,Oper.mildUpon,and_self]
theorem Kx {M:Nat->Prop} {w0 wc:World} {l:List Oper} {tail:List Oper} {k:Nat} {r:List (Nat×Bool)} (hk:l[k]?=some o) (hw:Region.wanted o (yielded l.toArray a.tmps)=true) (ty:TypeId) (x:Operand) (ho:o.op=.load ty x)
 (g:Nat) (hx:a.eval x=.pointer (some ⟨g,0,none⟩)) (t:TypeId) (cs:Array Value) (fr:Nat×Nat) (d:TypeDesc) (hg:∀p:TurnW M w0,p.w.heap[g]?=some (.cells cs t fr))
 (hu:P.underlying ty=some d) (hd:(match d with|.struct _|.array _ _=>true|_=>false)=true) (hi:(P.info? ty).map (·.size)=some cs.size)
 (h:wpMT P l.toArray M w0 Q tail r (a.put o.dst (.agg cs)) wc):wpMT P l.toArray M w0 Q tail ((k,false)::r) a wc:=
 A0 hk (fun K hK=>by rw[if_pos hw];exact Fb ty x ho g hx t cs fr d hg hu hd hi (hK _ h))
theorem Cn {M:Nat->Prop} {w0:World} (p:TurnW M w0) {k:Nat} {o:Obj} (h:w0.heap[k]?=some o) (hM:¬M k):p.w.heap[k]?=some o:=(p.h.block k (Array.getElem?_eq_some_iff.1 h).1 hM).trans h
end
end Go
namespace Go
open Go.Sort Go.RowKit
abbrev PanicR:=List PanicEntry->World->Prop
section
variable {P:Program} {ops:Array Oper} {md:Region.Mode} {w0:World} {M:Nat->Prop} {Q:Exit->Act->World->Prop} {R:PanicR}
def calmR (R:PanicR) (Q:Exit->Act->World->Prop):Exit->Act->World->Prop
 | .outgrown,a,w=>Q .outgrown a w
 | .panic c,_,w=>R c w
 | _,_,_=>False
theorem Act.put_defers_eq (a:Act) (d:Option Tmp) (v:Value):(a.put d v).defers=a.defers:=by cases d<;>rfl
def OfPanic (R:PanicR) (Q:Exit->Act->World->Prop):Prop:=∀c (a:Act) w,a.defers=[]->R c w->Q (.panic c) a w
theorem Pn (hR:OfPanic R Q) (e:Exit) (a:Act) (w:World) (hd:a.defers=[]) (h:calmR R Q e a w):Q e a w:=by
 cases e<;>first|exact h|exact hR _ _ _ hd h|exact h.elim
theorem LetsOut.of_calmR (h:LetsOut (calmR R Q)):LetsOut Q:=by obtain⟨a,w,h⟩:=h;exact⟨a,w,h⟩
theorem Oper.wp_calmR (hR:OfPanic R Q) {o:Oper} {a:Act} (hd:a.defers=[]) {w:World} {K K':Act->World->Prop} (h:∀a w,K a w->K' a w) (hh:o.wp P a w K (calmR R Q)):o.wp P a w K' Q:=by
 unfold Oper.wp at *;generalize (execOp a.eval o).run P w=r at *
 cases r with
 | ok n w'=>
  cases n<;>simp only[Oper.upon]at hh ⊢<;>
   first
    | exact h _ _ hh
    | exact Calls.mono hh (fun e w'' he=>by cases e<;>first|exact h _ _ he|exact Pn hR _ _ _ hd he|exact LetsOut.of_calmR he)
    | exact Rows.mono hh (fun _ _ he=>h _ _ he)
 | halt x w'=>cases x<;>simp only[Oper.upon]at hh ⊢<;>first|exact Pn hR _ _ _ hd hh|exact hh
def mOpP (P:Program) (ops:Array Oper) (M:Nat->Prop) (w0:World) (R:PanicR) (Q:Exit->Act->World->Prop) (i:Nat) (K:Act->World->Prop) (a:Act) (wc:World):Prop:=
 match ops[i]? with
 | none=>False
 | some o=>if Region.wanted o (yielded ops a.tmps)then(o.mildT P a M w0 (fun a'=>K a' wc))\/(a.defers=[]/\∀w,Below wc.heap.size wc w->Turn M w0 w->(o.wp P a w (fun a' w'=>Turn M w0 w'/\K a' w') (calmR R Q)\/(o.asks P a w/\LetsOut Q)))else K (a.put o.dst undef) wc
theorem U4 {i:Nat} {a:Act} {wc:World} {K K':Act->World->Prop} (h:∀a w,K a w->K' a w) (hh:mOpP P ops M w0 R Q i K a wc):mOpP P ops M w0 R Q i K' a wc:=by
 unfold mOpP at *;split
 ·simp_all
 ·rename_i o ho;simp only[ho]at hh;split
  ·rename_i hw;simp only[hw,if_true]at hh;rcases hh with⟨v,h1,h2⟩|hh
   ·exact .inl ⟨v,h1,h _ _ h2⟩
   ·exact .inr ⟨hh.1,fun w h1 h2=>(hh.2 w h1 h2).imp (Oper.wp_mono fun a w h3=>⟨h3.1,h _ _ h3.2⟩) id⟩
  ·rename_i hw;simp only[hw]at hh;exact h _ _ hh
theorem Mj (hR:OfPanic R Q) {i:Nat} {a:Act} {wc w:World} {K K':Act->World->Prop} (h1:Below wc.heap.size wc w) (h2:Turn M w0 w)
 (h:∀a wc' w',Below wc'.heap.size wc' w'->Turn M w0 w'->K a wc'->K' a w') (hh:mOpP P ops M w0 R Q i K a wc):wpOp P ops Q i K' a w:=by
 unfold mOpP at hh
 unfold wpOp
 split
 ·simp_all
 ·rename_i o ho;simp only[ho]at hh;split
  ·rename_i hw;simp only[hw,if_true]at hh;rcases hh with⟨v,h3,h4⟩|hh
   ·have h5:=h3 w ⟨⟨w,h2⟩,rfl⟩;refine .inl ?_;unfold Oper.mildAt at h5;unfold Oper.wp;generalize (execOp a.eval o).run P w=r at *
    cases r with
    | ok n w'=>
     cases n<;>simp only[Oper.mildUpon]at h5<;>simp only[Oper.upon]
     case value u=>obtain⟨e1,e2⟩:=h5;rw[e1,e2];exact h _ _ _ h1 h2 h4
     case skip=>obtain⟨e1,e2⟩:=h5;rw[e1,<- e2];exact h _ _ _ h1 h2 h4
     case enter f args=>
      obtain⟨e1,hc⟩:=h5;rw[e1];exact hc.mono fun e w'' ⟨he,hw''⟩=>by subst he;exact h _ _ _ (h1.step hw'') (h2.step hw'') h4
    | halt x w'=>simp only[Oper.mildUpon]at h5
   ·exact(hh.2 w h1 h2).imp (Oper.wp_calmR hR hh.1 fun a' w' h3=>h _ _ _ (Below.refl _ _) h3.1 h3.2) id
  ·rename_i hw;simp only[hw]at hh;exact h _ _ _ h1 h2 hh
theorem YMT.mOpP {i:Nat} {o:Oper} {v:Value} {a:Act} (hi:ops[i]?=some o) (hy:YMT P ops M w0 o v a) {K:Act->World->Prop} {wc:World} (h:K (a.put o.dst v) wc):mOpP P ops M w0 R Q i K a wc:=by
 unfold Go.mOpP;simp only[hi];rcases hy with⟨hw,hv⟩|⟨hw,rfl⟩
 ·simp only[hw,if_true];exact .inl ⟨v,hv,h⟩
 ·simp only[hw,Bool.false_eq_true,if_false];exact h
theorem Xu {j:Nat} {oi oj:Oper} {v:Value} (hj:ops[j]?=some oj) (hap:oi.apart ops oj=true)
 (hsi:∀cs b,oi.op≠.select cs b) (hsj:∀cs b,oj.op≠.select cs b) {K:Act->World->Prop} {a:Act} {wc:World}
 (hy:YMT P ops M w0 oi v a) (h:mOpP P ops M w0 R Q j K (a.put oi.dst v) wc):
 mOpP P ops M w0 R Q j (fun a' wc'=>YMT P ops M w0 oi v a'/\K (a'.put oi.dst v) wc') a wc:=by
 obtain⟨h1,h2,h3⟩:=Oper.apart_spec hap
 have keep:∀(a:Act),YMT P ops M w0 oi v a->∀u,YMT P ops M w0 oi v (a.put oj.dst u):=fun a hy u=>
  hy.of_same (execOp_put oi hsi a oj.dst u h3) (wanted_put oi a oj.dst u h3)
 have keepD:∀d,YMT P ops M w0 oi v {a with defers:=d::a.defers}:=fun d=>hy.of_same rfl rfl
 unfold mOpP at *
 simp only[hj]at *
 rw[wanted_put oj a oi.dst v h1]at h
 split
 ·rename_i hw;simp only[hw,if_true]at h;rcases h with⟨u,hu,hn⟩|h
  ·refine .inl ⟨u,fun w hw'=>?_,keep a hy u,by rw[<- Act.put_comm a v u h2];exact hn⟩
   have:=hu w hw'
   unfold Oper.mildAt at *
   rwa [execOp_put oj hsj a oi.dst v h1]at this
  ·refine .inr ⟨by have:=h.1;rwa [Act.put_defers_eq]at this,fun w hw1 hw2=>?_⟩;rcases h.2 w hw1 hw2 with h|⟨hasks,hlets⟩
   case inr=>exact .inr ⟨by unfold Oper.asks at *;rw[execOp_put oj hsj a oi.dst v h1]at hasks;exact hasks,hlets⟩
   refine .inl ?_;unfold Oper.wp at *;rw[execOp_put oj hsj a oi.dst v h1]at h;generalize (execOp a.eval oj).run P w=r at *
   cases r with
   | ok n w'=>
    cases n<;>simp only[Oper.upon]at h ⊢
    case value u=>exact⟨h.1,keep a hy u,by rw[<- Act.put_comm a v u h2];exact h.2⟩
    case skip=>exact⟨h.1,keep a hy _,by rw[<- Act.put_comm a v undef h2];exact h.2⟩
    case defer d=>
     refine⟨h.1,keep _ (keepD d) _,?_⟩;rw[<- Act.put_comm _ v undef h2,<- Act.put_defers];exact h.2
    case enter f args=>
     refine Calls.mono h fun e w'' he=>?_
     cases e with
     | returned u=>exact⟨he.1,keep a hy u,by rw[<- Act.put_comm a v u h2];exact he.2⟩
     | panicked c=>exact he
     | outgrown=>exact he
    case row row args=>exact Rows.mono h fun u w'' he=>⟨he.1,keep a hy u,by rw[<- Act.put_comm a v u h2];exact he.2⟩
   | halt x w'=>
    cases x<;>simp only[Oper.upon]at h ⊢
    case panic u=>exact h
 ·rename_i hw;simp only[hw]at h;exact⟨keep a hy _,by rw[<- Act.put_comm a v undef h2];exact h⟩
def wpAMP (P:Program) (md:Region.Mode) (ops:Array Oper) (M:Nat->Prop) (w0:World) (R:PanicR) (Q:Exit->Act->World->Prop) (n:Nat) (L:Array Bool->Act->World->Prop):Nat->Array Bool->Act->World->Prop
 | 0,listed,a,wc=>L listed a wc
 | f+1,listed,a,wc=>
  Region.ready md ops listed≠[]/\∀i∈Region.ready md ops listed,i<n/\mOpP P ops M w0 R Q i (wpAMP P md ops M w0 R Q n L f (listed.setIfInBounds i true)) a wc
theorem G3 (hR:OfPanic R Q) {n g:Nat} {L:Array Bool->Act->World->Prop} (hL:∀listed a wc w,Below wc.heap.size wc w->Turn M w0 w->L listed a wc->wpAny P md ops Q g listed a w):
 ∀(f:Nat) (listed:Array Bool) (a:Act) (wc w:World),Below wc.heap.size wc w->Turn M w0 w->wpAMP P md ops M w0 R Q n L f listed a wc->wpAny P md ops Q (f+g) listed a w
 | 0,listed,a,wc,w,h1,h2,h=>by rw[Nat.zero_add];exact hL _ _ _ _ h1 h2 h
 | f+1,listed,a,wc,w,h1,h2,h=>by
  rw[show f+1+g=(f+g)+1 by omega];exact⟨fun h0=>absurd h0 h.1,fun i hi=>Mj hR h1 h2 (fun a' wc' w' h3 h4 h5=>G3 hR hL f _ a' wc' w' h3 h4 h5) (h.2 i hi).2⟩
theorem Nm {n i:Nat} {oi:Oper} {v:Value} {L:Array Bool->Act->World->Prop} (hi:ops[i]?=some oi) (hsel:∀(j:Nat) (o:Oper) cs b,ops[j]?=some o->o.op≠.select cs b)
 (hw:TailWaits md ops n) (hin:i<n)
 (hdone:∀listed a wc,L listed a wc->∀j∈Region.ready md ops listed,n<=j):
 ∀(f:Nat) (listed:Array Bool) (a:Act) (wc:World),HeadInv md ops n listed ->
  (∀j oj,ops[j]?=some oj->j≠i->listed.getD j true=false->(∀e∈oj.after,Region.binds md e=true->e.on≠i)->oi.apart ops oj=true) ->
  i∈Region.ready md ops listed->YMT P ops M w0 oi v a ->
  wpAMP P md ops M w0 R Q n L f (listed.setIfInBounds i true) (a.put oi.dst v) wc->wpAMP P md ops M w0 R Q n L (f+1) listed a wc:=by
 intro f
 induction f with
 | zero=>
  intro listed a wc inv _ hr hy H;have hun:=(mem_ready.1 hr).1;refine⟨fun h=>(by rw[h]at hr;cases hr),fun j hj=>?_⟩;have hjn:j<n:=by
   rcases Nat.lt_or_ge j n with h|h
   ·exact h
   ·exact absurd hj (hw listed inv i hin hun j h)
  refine⟨hjn,?_⟩;by_cases hji:j=i
  ·subst hji;exact hy.mOpP hi H
  ·have:=hdone _ _ _ H j (ready_mono hj hji);omega
 | succ f ih=>
  intro listed a wc inv hfree hr hy H;have hun:=(mem_ready.1 hr).1;refine⟨fun h=>(by rw[h]at hr;cases hr),fun j hj=>?_⟩;have hjn:j<n:=by
   rcases Nat.lt_or_ge j n with h|h
   ·exact h
   ·exact absurd hj (hw listed inv i hin hun j h)
  refine⟨hjn,?_⟩;by_cases hji:j=i
  ·subst hji;exact hy.mOpP hi H
  ·have h1:=(H.2 j (ready_mono hj hji)).2;obtain⟨hjun,oj,hoj,hall⟩:=mem_ready.1 hj;have hnot:∀e∈oj.after,Region.binds md e=true->e.on≠i:=fun e he hb heq=>by
    have h1:=hall e he hb;rw[heq,getD_both hun]at h1
    cases h1
   have h2:=Xu hoj (hfree j oj hoj hji hjun hnot) (fun cs b=>hsel i oi cs b hi) (fun cs b=>hsel j oj cs b hoj) hy h1;have hfree':∀k ok,ops[k]?=some ok->k≠i->(listed.setIfInBounds j true).getD k true=false ->
    (∀e∈ok.after,Region.binds md e=true->e.on≠i)->oi.apart ops ok=true:=fun k ok hk hki hun hno=>by
    refine hfree k ok hk hki ?_ hno
    by_cases hjk:j=k
    ·subst hjk;exact hjun
    ·rw[getD_set_ne true hjk]at hun;exact hun
   refine U4 (fun a' wc' h3=>ih (listed.setIfInBounds j true) a' wc' (inv.set hj hjn) hfree' (ready_mono hr (Ne.symm hji)) h3.1 ?_) h2;rw[Array.setIfInBounds_comm _ _ hji];exact h3.2
def wpMP (P:Program) (ops:Array Oper) (M:Nat->Prop) (w0:World) (R:PanicR) (Q:Exit->Act->World->Prop) (tail:List Oper):List (Nat×Bool)->Act->World->Prop
 | [],a,wc=>∀w,Below wc.heap.size wc w->Turn M w0 w->wpList P ops Q tail a w
 | (k,false)::r,a,wc=>∃o,ops[k]?=some o/\if Region.wanted o (yielded ops a.tmps)then o.mildT P a M w0 (fun a'=>wpMP P ops M w0 R Q tail r a' wc)else wpMP P ops M w0 R Q tail r (a.put o.dst undef) wc
 | (k,true)::r,a,wc=>∃o,ops[k]?=some o/\a.defers=[]/\∀w,Below wc.heap.size wc w->Turn M w0 w ->
  wpList P ops (Exit.then (fun a' w'=>Turn M w0 w'/\wpMP P ops M w0 R Q tail r a' w') (calmR R Q)) [o] a w
theorem Ch {n g:Nat} {tail:List Oper} (hsel:Region.noSelect ops=true) (hw:TailWaits md ops n):
 ∀(r:List (Nat×Bool)) (listed:Array Bool) (a:Act) (wc:World),HeadInv md ops n listed->Region.mixB md ops g n r listed=true->wpMP P ops M w0 R Q tail r a wc ->
 wpAMP P md ops M w0 R Q n (fun listed' a' wc'=>Region.seqB md ops g n listed'=true/\∀w,Below wc'.heap.size wc' w->Turn M w0 w->wpList P ops Q tail a' w) r.length listed a wc
 | [],listed,a,wc,_,hB,h=>⟨by simpa[Region.mixB]using hB,h⟩
 | (k,false)::r,listed,a,wc,inv,hB,h=>by
  obtain⟨o,h0,h⟩:=h;simp only[Region.mixB,Bool.and_eq_true,decide_eq_true_eq]at hB;obtain⟨⟨⟨hr,hf⟩,hkn⟩,hB'⟩:=hB;have hr':k∈Region.ready md ops listed:=by simpa using hr
  obtain⟨v,hy,hK⟩:∃v,YMT P ops M w0 o v a/\wpMP P ops M w0 R Q tail r (a.put o.dst v) wc:=by
   by_cases hwt:Region.wanted o (yielded ops a.tmps)=true
   ·rw[if_pos hwt]at h;obtain⟨v,h1,h2⟩:=h;exact⟨v,.inl ⟨hwt,h1⟩,h2⟩
   ·rw[if_neg hwt]at h;exact⟨undef,.inr ⟨by simpa using hwt,rfl⟩,h⟩
  exact Nm h0 (Region.noSelect_spec hsel) hw hkn (fun listed' a' wc' hL=>seqB_ready hL.1) r.length listed a wc inv (Region.free_spec h0 hf) hr' hy
   (Ch hsel hw r _ _ _ (inv.set hr' hkn) hB' hK)
 | (k,true)::r,listed,a,wc,inv,hB,h=>by
  obtain⟨o,h0,h⟩:=h;simp only[Region.mixB,Bool.and_eq_true,decide_eq_true_eq]at hB;obtain⟨⟨⟨hr,hkn⟩,hgd⟩,hB'⟩:=hB;have hr':k∈Region.ready md ops listed:=by rw[hr];simp
  have hgd':o.guard=none:=by rw[h0]at hgd;simpa using hgd
  refine⟨by rw[hr];simp,fun j hj=>?_⟩;rw[hr]at hj;have hjk:j=k:=by simpa using hj
  subst hjk;refine⟨hkn,?_⟩;have hwt:∀a:Act,Region.wanted o (yielded ops a.tmps)=true:=fun a=>by simp[Region.wanted,hgd']
  unfold mOpP;simp only[h0,hwt a,if_true];refine .inr ⟨h.1,fun w h1 h2=>?_⟩;have h3:=h.2 w h1 h2;simp only[wpList,hwt a,if_true]at h3;rcases h3 with h3|h3
  ·refine .inl ?_;unfold Oper.wp at *;generalize (execOp a.eval o).run P w=r' at *
   cases r' with
   | ok nx w'=>
    cases nx<;>simp only[Oper.upon]at h3 ⊢
    case value u=>exact⟨h3.1,Ch hsel hw r _ _ _ (inv.set hr' hkn) hB' h3.2⟩
    case skip=>exact⟨h3.1,Ch hsel hw r _ _ _ (inv.set hr' hkn) hB' h3.2⟩
    case defer d=>exact⟨h3.1,Ch hsel hw r _ _ _ (inv.set hr' hkn) hB' h3.2⟩
    case enter f args=>
     refine Calls.mono h3 fun e w'' he=>?_
     cases e with
     | returned u=>exact⟨he.1,Ch hsel hw r _ _ _ (inv.set hr' hkn) hB' he.2⟩
     | panicked c=>exact he
     | outgrown=>obtain⟨a1,w1,h4⟩:=he;exact⟨a1,w1,h4⟩
    case row row args=>exact Rows.mono h3 fun u w'' he=>⟨he.1,Ch hsel hw r _ _ _ (inv.set hr' hkn) hB' he.2⟩
   | halt x w'=>
    cases x<;>simp only[Oper.upon]at h3 ⊢
    case panic u=>exact h3
  ·obtain⟨h3,a1,w1,h4⟩:=h3;exact .inr ⟨h3,a1,w1,h4⟩
theorem Bf (M:Nat->Prop) (R:PanicR) (hR:OfPanic R Q) {id:Nat} {a:Act} {w:World} {l:List Oper} (n:Nat) (r:List (Nat×Bool)) (hm:P.follows .mixedOrders=true) (hB:Region.mixedB .any l.toArray n r=true)
 (h:wpMP P l.toArray M w R Q (l.drop n) r a w):(Code.region id l.toArray true).wp P Q a w:=by
 simp only[Region.mixedB,Bool.and_eq_true,decide_eq_true_eq,Bool.or_eq_true]at hB
 obtain⟨⟨⟨⟨hsel,hn⟩,hrl⟩,hs⟩,hmix⟩:=hB
 have hdl:(l.drop n).length=l.toArray.size - n:=by simp
 have hw:TailWaits .any l.toArray n:=by
  rcases hs with hs|⟨hs,hc⟩
  ·intro listed _ i _ _ t ht hr;obtain⟨_,o,ho,_⟩:=mem_ready.1 hr;have:=(Array.getElem?_eq_some_iff.1 ho).1;omega
  ·intro listed inv i hi hun t ht;by_cases hn':n<l.toArray.size
   ·exact tail_waits hs hc hn' inv _ i rfl hi hun t ht
   ·intro hr;obtain⟨_,o,ho,_⟩:=mem_ready.1 hr;have:=(Array.getElem?_eq_some_iff.1 ho).1;omega
 have inv0:HeadInv .any l.toArray n (Array.replicate l.toArray.size false):=
  ⟨by simp,fun j oj _ hl=>(by rw[getD_replicate_false]at hl;cases hl),fun t _ ht=>getD_in (by simpa using ht) (getD_replicate_false _ _)⟩
 have H:=Ch (md:=.any) (g:=l.toArray.size - n) hsel hw r _ a w inv0 hmix h
 refine wp_region_any hm ?_
 have hd:Below w.heap.size w {w with drawn:=w.drawn+1}:=⟨rfl,rfl,rfl,Nat.le_refl _,fun _ _=>rfl⟩
 have hdT:Turn M w {w with drawn:=w.drawn+1}:=Turn.of_below hd
 have:=G3 (R:=R) (Q:=Q) hR (g:=l.toArray.size - n) (fun listed a' wc w' h1 h2 hL=>by
  have:=wpAny_of_seq (md:=.any) (Q':=Q) (l.drop n) n listed a' w' (fun j=>by simp[List.getElem?_drop]) (by rw[hdl];exact hL.1) (hL.2 w' h1 h2)
  rwa [hdl]at this) _ _ _ _ _ hd hdT H
 rw[hrl,show n+(l.toArray.size - n)=l.toArray.size by omega]at this
 exact this
theorem Bm {l:List Oper} {tail:List Oper} {k:Nat} {r:List (Nat×Bool)} {a:Act} {wc:World} {o:Oper} (ho:l[k]?=some o)
 (h:∀K:Act->Prop,(∀a',wpMP P l.toArray M w0 R Q tail r a' wc->K a')->if Region.wanted o (yielded l.toArray a.tmps)then o.mildT P a M w0 K else K (a.put o.dst undef)):wpMP P l.toArray M w0 R Q tail ((k,false)::r) a wc:=
 ⟨o,by simpa using ho,h _ (fun _ h=>h)⟩
theorem Bj {l:List Oper} {tail:List Oper} {k:Nat} {r:List (Nat×Bool)} {a:Act} {wc:World} {o:Oper} (ho:l[k]?=some o) (hd:a.defers=[])
 (h:∀w,Below wc.heap.size wc w->Turn M w0 w->wpList P l.toArray (Exit.then (fun a' w'=>Turn M w0 w'/\wpMP P l.toArray M w0 R Q tail r a' w') (calmR R Q)) [o] a w):wpMP P l.toArray M w0 R Q tail ((k,true)::r) a wc:=
 ⟨o,by simpa using ho,hd,h⟩
theorem C7 {tail:List Oper} {a:Act} {wc:World} (h:∀w,Below wc.heap.size wc w->Turn M w0 w->wpList P ops Q tail a w):wpMP P ops M w0 R Q tail [] a wc:=h
end
end Go
namespace Go.Proofs.YtjmmbebkbkgefaaGreatDoor
open Tryz
mutual
def Ex.Wf:Ex->Prop
 | .mk _ t n v args=>(t.length<=1152921504606846976/\n.length<=1152921504606846976)/\v.Wf/\ExsWf args
def ExsWf:List Ex->Prop
 | []=>True
 | a::l=>a.Wf/\ExsWf l
end
theorem L7 {l:List Ex} (h:ExsWf l):∀a∈l,a.Wf:=by
 induction l with
 | nil=>intro a ha;cases ha
 | cons b l ih=>
  intro a ha;simp only[ExsWf]at h;rcases List.mem_cons.1 ha with rfl|ha
  ·exact h.1
  ·exact ih h.2 a ha
theorem exsWf_of {l:List Ex} (h:∀a∈l,a.Wf):ExsWf l:=by
 induction l with
 | nil=>trivial
 | cons b l ih=>exact⟨h b (by simp),ih fun a ha=>h a (by simp[ha])⟩
structure Sel.Wf (x:Sel):Prop where
 items:∀p∈x.items,p.arg.Wf
 on:∀e∈x.on,e.Wf
 where_:x.where_.Wf
 group:∀e∈x.group,e.Wf
structure Stm.Wf (x:Stm):Prop where
 checks:∀c∈x.schema.checks,c.val.Wf
 rows:∀r∈x.rows,∀v∈r,v.Wf
 exprs:∀e∈x.exprs,e.Wf
 where_:x.where_.Wf
 select:x.select.Wf
def Sel.lists (x:Sel):Nat:=x.items.length+x.from_.length+x.on.length+x.group.length+x.sort.length
def Stm.lists (x:Stm):Nat:=x.names.length+x.rows.length+x.exprs.length+x.schema.cols.length+x.schema.indexes.length+x.schema.checks.length+x.select.lists
def Stm.txt (x:Stm):Nat:=x.table.length+x.name.length+x.schema.name.length
theorem W8 (e:Ex):∀most:Int,0<=most->1<=sizeE e most/\sizeE e most<=most+1:=by
 refine Ex.ind (P:=fun e=>∀most:Int,0<=most->1<=sizeE e most/\sizeE e most<=most+1) ?_ e;intro op t n v args ih most hm;unfold sizeE;have key:∀(l:List Ex) (n:Int),(∀a∈l,a∈args)->1<=n->n<=most+1->1<=sizeL l most n/\sizeL l most n<=most+1:=by
  intro l
  induction l with
  | nil=>intro n _ h1 h2;exact⟨h1,h2⟩
  | cons a l ihl=>
   intro n hl h1 h2;unfold sizeL;split
   ·exact⟨h1,h2⟩
   ·have:=ih a (hl a (by simp)) (most - n) (by omega);exact ihl _ (fun b hb=>hl b (by simp[hb])) (by omega) (by omega)
 exact key args 1 (fun a h=>h) (by omega) (by omega)
theorem O7 (l:List Ex):formedL l=l.all Ex.formed:=by
 induction l with
 | nil=>rfl
 | cons a l ih=>rw[formedL,List.all_cons,ih]
theorem V.wf_of {k n:Int} {s:ByteArray} (h1:-9223372036854775808<=n) (h2:n<=9223372036854775807):V.Wf ⟨k,n,s⟩:=⟨h1,h2⟩
theorem V.null_wf:V.null.Wf:=V.wf_of (by decide) (by decide)
inductive Xp where
 | mk (op n:Int) (val:V) (args:List Xp)
def Xp.op:Xp->Int|.mk o _ _ _=>o
def Xp.n:Xp->Int|.mk _ n _ _=>n
def Xp.val:Xp->V|.mk _ _ v _=>v
def Xp.args:Xp->List Xp|.mk _ _ _ l=>l
def Xp.zero:Xp:=.mk 0 0 V.null []
def Xp.col (n:Int):Xp:=.mk 1 n V.null []
theorem Xp.ind {P:Xp->Prop} (h:∀op n v args,(∀a∈args,P a)->P (.mk op n v args)):∀e,P e:=fun e=>by
 refine Xp.rec (motive_1:=P) (motive_2:=fun l=>∀a∈l,P a) ?_ ?_ ?_ e
 ·intro op n v args ih;exact h op n v args ih
 ·intro a ha;cases ha
 ·intro a l ha hl b hb;rcases List.mem_cons.1 hb with rfl|hb
  ·exact ha
  ·exact hl b hb
structure Ag where
 fn:Int
 arg:Xp
structure Od where
 col:Int
 down:Bool
 deriving DecidableEq
inductive Qy where
 | mk (k:Int) (tab:List UInt8) (subs:List Qy) (cond:Xp) (cols:List Xp) (group:List Int) (aggs:List Ag) (order:List Od) (n:Int)
theorem Qy.ind {P:Qy->Prop} (h:∀k tab subs cond cols group aggs order n,(∀a∈subs,P a)->P (.mk k tab subs cond cols group aggs order n)):∀e,P e:=fun e=>by
 refine Qy.rec (motive_1:=P) (motive_2:=fun l=>∀a∈l,P a) ?_ ?_ ?_ e
 ·intro k tab subs cond cols group aggs order n ih;exact h k tab subs cond cols group aggs order n ih
 ·intro a ha;cases ha
 ·intro a l ha hl b hb;rcases List.mem_cons.1 hb with rfl|hb
  ·exact ha
  ·exact hl b hb
mutual
def nodesQ:Qy->Nat
 | .mk _ _ subs _ _ _ _ _ _=>1+nodesQs subs
def nodesQs:List Qy->Nat
 | []=>0
 | a::l=>nodesQ a+nodesQs l
end
def Xp.isZero (x:Xp):Bool:=decide (x.op=0)&&decide (x.n=0)&&decide (x.val=V.null)&&decide (x.args.length=0)
def nodeQ (k:Int) (tab:List UInt8) (ns:Nat) (cond:Xp) (cols:List Xp) (group:List Int) (aggs:List Ag) (order:List Od) (n:Int):Bool:=
 decide (1<=k)&&decide (k<=8)&&(decide (k=1)||decide (tab=[]))&&(decide (k=2)||decide (k=4)||cond.isZero)&&(decide (k=3)||decide (cols.length=0))&&
  (decide (k=5)||decide (group.length=0)&&decide (aggs.length=0))&&(decide (k=6)||decide (order.length=0))&&(decide (k=7)||decide (n=0))&&
  decide ((ns:Int)=if k=1 then 0 else if k=4 then 2 else 1)&&decide (cols.length+group.length+aggs.length+order.length<=1000000)&&aggs.all (fun a=>decide (a.fn≠1)||a.arg.isZero)
mutual
def Qy.formed:Qy->Bool
 | .mk k tab subs cond cols group aggs order n=>nodeQ k tab subs.length cond cols group aggs order n&&formedQs subs
def formedQs:List Qy->Bool
 | []=>true
 | a::l=>a.formed&&formedQs l
end
theorem Ha (l:List Qy):formedQs l=l.all Qy.formed:=by
 induction l with
 | nil=>rfl
 | cons a l ih=>rw[formedQs,List.all_cons,ih]
def projR (ck:List Int->Xp->Int×Int) (ins:List Int):List Xp->List Int->List Int×Int
 | [],out=>(out,0)
 | x::l,out=>if(ck ins x).2≠0 then([],(ck ins x).2)else projR ck ins l (out++[(ck ins x).1])
def projectsR (ck:List Int->Xp->Int×Int) (ins:List Int) (l:List Xp):List Int×Int:=if l.length=0 then([],1)else if 32<l.length then([],2)else projR ck ins l []
def grpR (ins:List Int):List Int->List Int->List Int->Option (List Int)
 | [],_,out=>some out
 | c::l,known,out=>if c<0\/(ins.length:Int)<=c\/c∈known then none else grpR ins l (known++[c]) (out++[ins.getD c.toNat 0])
def aggR (ck:List Int->Xp->Int×Int) (ins:List Int) (a:Ag):Int×Int:=
 if a.fn=1 then(1,0)else if a.fn=2 then((if(ck ins a.arg).2=0 then 1 else(ck ins a.arg).1),if(ck ins a.arg).2=0 then(if(ck ins a.arg).1≠1/\(ck ins a.arg).1≠0 then 7 else 0)else(ck ins a.arg).2)
 else if a.fn=3\/a.fn=4 then ck ins a.arg else(1,1)
def agsR (ck:List Int->Xp->Int×Int) (ins:List Int):List Ag->List Int->List Int×Int
 | [],out=>(out,0)
 | a::l,out=>if(aggR ck ins a).2≠0 then([],(aggR ck ins a).2)else agsR ck ins l (out++[(aggR ck ins a).1])
def groupsR (ck:List Int->Xp->Int×Int) (ins:List Int) (group:List Int) (aggs:List Ag):List Int×Int:=
 if group.length+aggs.length=0 then([],1)else match grpR ins group [] []with
 | none=>([],1)
 | some out=>if 32<group.length+aggs.length then([],2)else agsR ck ins aggs out
def flatC (l:List Tbl):List (Bytes×Bytes):=l.flatMap fun t=>t.cols.map fun c=>(t.name,c.name)
def hitC (t n:Bytes) (p:Bytes×Bytes):Bool:=p.2==n&&(t==[]||t==p.1)
def fndC (t n:Bytes):Nat->List (Bytes×Bytes)->List Int
 | _,[]=>[]
 | i,p::l=>if hitC t n p then(i:Int)::fndC t n (i+1) l else fndC t n (i+1) l
theorem Tc (t n:Bytes):∀(l:List (Bytes×Bytes)) (i:Nat),(fndC t n i l).length<=l.length
 | [],_=>by simp[fndC]
 | p::l,i=>by
  have:=Tc t n l (i+1);unfold fndC;by_cases h:hitC t n p=true
  ·rw[if_pos h];simp only[List.length_cons];omega
  ·rw[if_neg h];simp only[List.length_cons];omega
def pickC:List Int->Except Int Xp
 | []=>.error 5
 | [i]=>.ok (.col i)
 | _=>.error 6
mutual
def Ex.res (sc:List (Bytes×Bytes)):Ex->Except Int Xp
 | .mk op t n v args=>if op=1 then pickC (fndC t n 0 sc)else match resL sc args with
  | .error e=>.error e
  | .ok l=>.ok (.mk op 0 v l)
def resL (sc:List (Bytes×Bytes)):List Ex->Except Int (List Xp)
 | []=>.ok []
 | e::l=>match Ex.res sc e with
  | .error x=>.error x
  | .ok a=>match resL sc l with
   | .error x=>.error x
   | .ok r=>.ok (a::r)
end
mutual
def Ex.brief:Ex->Prop
 | .mk _ _ _ _ args=>args.length<=1000000/\briefL args
def briefL:List Ex->Prop
 | []=>True
 | e::l=>Ex.brief e/\briefL l
end
theorem Gu:∀{l:List Ex},briefL l->∀a∈l,a.brief
 | [],_,a,h=>by cases h
 | e::l,hb,a,h=>by
  rcases List.mem_cons.1 h with rfl|h
  ·exact hb.1
  ·exact Gu hb.2 a h
def errX:Except Int Xp->Int
 | .error k=>k
 | .ok _=>0
def okX:Except Int Xp->Xp
 | .error _=>Xp.zero
 | .ok x=>x
def joinX (op:Int) (v:V) (acc:List Xp):Except Int (List Xp)->Except Int Xp
 | .error e=>.error e
 | .ok l=>.ok (.mk op 0 v (acc++l))
theorem Jw (sc:List (Bytes×Bytes)) (op:Int) (t n:Bytes) (v:V) (args:List Ex) (h:¬op=1):Ex.res sc (.mk op t n v args)=joinX op v [] (resL sc args):=by
 unfold Ex.res;rw[if_neg h]
 cases resL sc args<;>rfl
theorem Vd (op:Int) (v:V) (acc:List Xp) (sc:List (Bytes×Bytes)) (e:Ex) (l:List Ex) (k:Int) (h:Ex.res sc e=.error k):joinX op v acc (resL sc (e::l))=.error k:=by
 unfold resL;rw[h];rfl
theorem X3 (op:Int) (v:V) (acc:List Xp) (sc:List (Bytes×Bytes)) (e:Ex) (l:List Ex) (x:Xp) (h:Ex.res sc e=.ok x):joinX op v acc (resL sc (e::l))=joinX op v (acc++[x]) (resL sc l):=by
 have e1:resL sc (e::l)=match resL sc l with|.error y=>.error y|.ok r=>.ok (x::r):=by
  conv=>lhs;unfold resL
  rw[h]
 rw[e1]
 cases resL sc l with
 | error y=>rfl
 | ok r=>simp[joinX]
theorem Vc (op:Int) (v:V) (acc:List Xp) (sc:List (Bytes×Bytes)):joinX op v acc (resL sc [])=.ok (.mk op 0 v acc):=by
 unfold resL;simp[joinX]
theorem G8 (sc:List (Bytes×Bytes)) (t n:Bytes) (v:V) (args:List Ex):Ex.res sc (.mk 1 t n v args)=pickC (fndC t n 0 sc):=by
 unfold Ex.res;rw[if_pos rfl]
theorem Kj (t:Tbl) (l:List Tbl):flatC (t::l)=t.cols.map (fun c=>(t.name,c.name))++flatC l:=by simp[flatC]
def restC (t:Tbl) (j:Nat) (l:List Tbl):List (Bytes×Bytes):=(t.cols.drop j).map (fun c=>(t.name,c.name))++flatC l
theorem Ju (t:Tbl) (l:List Tbl):restC t 0 l=flatC (t::l):=by rw[Kj];rfl
theorem Lr (t:Tbl) (l:List Tbl):restC t t.cols.length l=flatC l:=by unfold restC;rw[List.drop_length];rfl
theorem Jv (t:Tbl) (j:Nat) (l:List Tbl) (c:Col) (h:t.cols[j]?=some c):restC t j l=(t.name,c.name)::restC t (j+1) l:=by
 obtain⟨hj,rfl⟩:=List.getElem?_eq_some_iff.1 h;unfold restC;rw[List.drop_eq_getElem_cons hj];rfl
theorem Hb (t n:Bytes) (i:Nat) (p:Bytes×Bytes) (l:List (Bytes×Bytes)) (h:hitC t n p=true):fndC t n i (p::l)=(i:Int)::fndC t n (i+1) l:=by
 conv=>lhs;unfold fndC
 rw[if_pos h]
theorem Db (t n:Bytes) (i:Nat) (p:Bytes×Bytes) (l:List (Bytes×Bytes)) (h:hitC t n p=false):fndC t n i (p::l)=fndC t n (i+1) l:=by
 conv=>lhs;unfold fndC
 rw[if_neg (by rw[h];decide)]
theorem Ff:∀{l:List Ex},formedL l=true->∀a∈l,a.formed=true
 | [],_,a,h=>by cases h
 | e::l,hb,a,h=>by
  unfold formedL at hb;rw[Bool.and_eq_true]at hb;rcases List.mem_cons.1 h with rfl|h
  ·exact hb.1
  ·exact Ff hb.2 a h
theorem Bb:∀e:Ex,e.formed=true->e.brief:=by
 refine Ex.ind fun op t n v args ih=>?_;intro h;unfold Ex.formed at h;rw[Bool.and_eq_true]at h;have hl:args.length<=2:=by
  have h1:=h.1;unfold nodeOk at h1;simp only[Bool.and_eq_true,decide_eq_true_eq]at h1;have h2:=h1.1.1.1.2;split at h2
  ·omega
  ·split at h2<;>omega
 have key:∀l:List Ex,(∀a∈l,a.formed=true->a.brief)->(∀a∈l,a.formed=true)->briefL l:=by
  intro l
  induction l with
  | nil=>intro _ _;exact trivial
  | cons a l ihl=>
   intro h1 h2;exact⟨h1 a (by simp) (h2 a (by simp)),ihl (fun d hd=>h1 d (by simp[hd])) (fun d hd=>h2 d (by simp[hd]))⟩
 exact⟨by omega,key args ih (Ff h.2)⟩
mutual
def Xp.short:Xp->Prop
 | .mk _ _ _ l=>l.length<=1000000/\shortL l
def shortL:List Xp->Prop
 | []=>True
 | e::l=>Xp.short e/\shortL l
end
theorem Gl:∀{l:List Xp},shortL l->∀a∈l,a.short
 | [],_,a,h=>by cases h
 | e::l,hb,a,h=>by
  rcases List.mem_cons.1 h with rfl|h
  ·exact hb.1
  ·exact Gl hb.2 a h
def tablesP (sc:List Tbl):Bool:=sc.all (fun t=>decide (t.cols.length<=20))&&decide (sc.length<=10)
theorem O9 {sc:List Tbl} {n:Nat} (h:∀t∈sc,t.cols.length<=n):(flatC sc).length<=sc.length * n:=by
 induction sc with
 | nil=>simp[flatC]
 | cons t l ih=>
  rw[Kj,List.length_append,List.length_map,List.length_cons,Nat.add_mul];have h1:=h t (by simp);have h2:=ih (fun u hu=>h u (by simp[hu]));omega
theorem Jj {sc:List Tbl} (h:tablesP sc=true):sc.length<=10/\(flatC sc).length<=200:=by
 unfold tablesP at h;rw[Bool.and_eq_true,List.all_eq_true]at h;have h2:sc.length<=10:=by simpa using h.2
 refine⟨h2,Nat.le_trans (O9 (n:=20) fun t ht=>by simpa using h.1 t ht) (by omega)⟩
end Go.Proofs.YtjmmbebkbkgefaaGreatDoor
