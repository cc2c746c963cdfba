/- Part 15; the last part says what is proved. No condition. -/
import Derived.Test.YtjmmbebkbkgefaaGreatDoorB03
set_option linter.unusedVariables false
set_option linter.unusedSimpArgs false
namespace Go.Proofs.YtjmmbebkbkgefaaGreatDoor
open Tryz
mutual
def sizeX:Xp->Nat
 | .mk _ _ _ l=>1+sizeXs l
def sizeXs:List Xp->Nat
 | []=>0
 | a::l=>sizeX a+sizeXs l
end
theorem Hv {l:List Xp} {k:Nat} {a:Xp} (h:l[k]?=some a):sizeXs (l.take (k+1))=sizeXs (l.take k)+sizeX a:=by
 obtain⟨hk,rfl⟩:=List.getElem?_eq_some_iff.1 h
 induction l generalizing k with
 | nil=>simp at hk
 | cons b l ih=>
  cases k with
  | zero=>simp[sizeXs]
  | succ k=>
   simp only[List.length_cons,Nat.add_lt_add_iff_right]at hk;have:=ih hk (by simp[hk]);simp only[List.take_succ_cons,sizeXs,List.getElem_cons_succ,this];omega
theorem Uc (l:List Xp) (k:Nat):sizeXs (l.take k)<=sizeXs l:=by
 induction l generalizing k with
 | nil=>simp[sizeXs]
 | cons a l ih=>
  cases k with
  | zero=>simp[sizeXs]
  | succ k=>simp only[List.take_succ_cons,sizeXs];have:=ih k;omega
def arityX (op:Int):Int:=if op=1\/op=2 then 0 else if op=14\/op=15 then 1 else if 2<op/\op<14 then 2 else -1
mutual
def Xp.formed:Xp->Bool
 | .mk op n v l=>decide ((l.length:Int)=arityX op)&&(decide (n=0)||decide (op=1))&&(decide (v=V.null)||decide (op=2))&&xformedL l
def xformedL:List Xp->Bool
 | []=>true
 | a::l=>a.formed&&xformedL l
end
theorem Gy:∀{l:List Xp},xformedL l=true->∀a∈l,a.formed=true
 | [],_,a,h=>by cases h
 | e::l,hb,a,h=>by
  unfold xformedL at hb;rw[Bool.and_eq_true]at hb;rcases List.mem_cons.1 h with rfl|h
  ·exact hb.1
  ·exact Gy hb.2 a h
theorem Ec {op n:Int} {v:V} {l:List Xp} (h:(Xp.mk op n v l).formed=true):∀a∈l,a.formed=true:=by
 unfold Xp.formed at h;rw[Bool.and_eq_true]at h;exact Gy h.2
theorem Be:∀e:Xp,e.formed=true->e.short:=by
 refine Xp.ind fun op n v l ih=>?_;intro h;have ha:=Ec h;unfold Xp.formed at h;simp only[Bool.and_eq_true,decide_eq_true_eq]at h;have hl:l.length<=2:=by
  have h1:=h.1.1.1;unfold arityX at h1;split at h1
  ·omega
  ·split at h1
   ·omega
   ·split at h1<;>omega
 have key:∀l:List Xp,(∀a∈l,a.short)->shortL l:=by
  intro l
  induction l with
  | nil=>intro _;exact trivial
  | cons a l ihl=>intro h;exact⟨h a (by simp),ihl (fun b hb=>h b (by simp[hb]))⟩
 exact⟨by omega,key l (fun a hm=>ih a hm (ha a hm))⟩
def allK (want:Int) (l:List Int):Bool:=!(l.any fun k=>decide (k≠want)&&decide (k≠0))
def kindN (kinds:List Int) (op n:Int) (v:V) (l:List Int):Int×Int:=
 if op=1 then(if n<0\/(kinds.length:Int)<=n\/kinds.getD n.toNat 0<0\/3<kinds.getD n.toNat 0 then(0,1)else(kinds.getD n.toNat 0,0))
 else if op=2 then(if v.right then(v.k,0)else(0,1))
 else if 3<=op/\op<=5 then(if allK 1 l then(1,0)else(0,7))
 else if 6<=op/\op<=11 then(if !allK (l.getD 0 0) l&&!allK (l.getD 1 0) l then(0,7)else(3,0))
 else if op≠15/\allK 3 l=false then(0,7)else(3,0)
mutual
def Xp.kindX (kinds:List Int):Xp->Int×Int
 | .mk op n v args=>match kindXs kinds args with
  | .error e=>(0,e)
  | .ok l=>kindN kinds op n v l
def kindXs (kinds:List Int):List Xp->Except Int (List Int)
 | []=>.ok []
 | a::l=>if(Xp.kindX kinds a).2≠0 then .error (Xp.kindX kinds a).2 else match kindXs kinds l with
  | .error e=>.error e
  | .ok r=>.ok ((Xp.kindX kinds a).1::r)
end
def kindJ (kinds:List Int) (op n:Int) (v:V) (acc:List Int):Except Int (List Int)->Int×Int
 | .error e=>(0,e)
 | .ok l=>kindN kinds op n v (acc++l)
theorem X1 (kinds:List Int) (op n:Int) (v:V) (args:List Xp):Xp.kindX kinds (.mk op n v args)=kindJ kinds op n v [] (kindXs kinds args):=by
 unfold Xp.kindX
 cases kindXs kinds args<;>rfl
theorem Va (kinds:List Int) (op n:Int) (v:V) (acc:List Int):kindJ kinds op n v acc (kindXs kinds [])=kindN kinds op n v acc:=by
 unfold kindXs;simp[kindJ]
theorem Vb (kinds:List Int) (op n:Int) (v:V) (acc:List Int) (a:Xp) (l:List Xp) (h:(Xp.kindX kinds a).2≠0):kindJ kinds op n v acc (kindXs kinds (a::l))=(0,(Xp.kindX kinds a).2):=by
 unfold kindXs;rw[if_pos h];rfl
theorem X2 (kinds:List Int) (op n:Int) (v:V) (acc:List Int) (a:Xp) (l:List Xp) (h:(Xp.kindX kinds a).2=0):kindJ kinds op n v acc (kindXs kinds (a::l))=kindJ kinds op n v (acc++[(Xp.kindX kinds a).1]) (kindXs kinds l):=by
 have e1:kindXs kinds (a::l)=match kindXs kinds l with|.error e=>.error e|.ok r=>.ok ((Xp.kindX kinds a).1::r):=by
  conv=>lhs;unfold kindXs
  rw[if_neg (fun hn=>hn h)]
 rw[e1]
 cases kindXs kinds l with
 | error e=>rfl
 | ok r=>simp[kindJ]
mutual
def Xp.Wf:Xp->Prop
 | .mk _ _ v l=>v.Wf/\xpWfL l
def xpWfL:List Xp->Prop
 | []=>True
 | a::l=>a.Wf/\xpWfL l
end
theorem Lc:∀{l:List Xp},xpWfL l->∀a∈l,a.Wf
 | [],_,a,h=>by cases h
 | e::l,hb,a,h=>by
  rcases List.mem_cons.1 h with rfl|h
  ·exact hb.1
  ·exact Lc hb.2 a h
def checkX (kinds:List Int) (e:Xp):Int×Int:=if 200<sizeX e then(0,2)else Xp.kindX kinds e
structure XpFine (x:Xp):Prop where
 formed:x.formed=true
 wf:x.Wf
 size:sizeX x<=1000000
def truthX (kinds:List Int) (e:Xp):Int:=if(checkX kinds e).2=0/\(checkX kinds e).1≠3/\(checkX kinds e).1≠0 then 7 else(checkX kinds e).2
def condN (ins:List Int) (cond:Xp):List Int×Int:=if truthX ins cond≠0 then([],truthX ins cond)else(ins,0)
def orderN (ins:List Int) (order:List Od):List Int×Int:=if order.length=0\/(order.any fun o=>!(decide (0<=o.col)&&decide (o.col<(ins.length:Int))))=true then([],1)else(ins,0)
def schN (db:List Tbl) (k:Int) (tab:Bytes) (cond:Xp) (cols:List Xp) (group:List Int) (aggs:List Ag) (order:List Od) (n:Int) (ins:List Int):List Int×Int:=
 if k=1 then(match db.find? (fun t=>t.name==tab)with|none=>([],5)|some t=>(ins++t.cols.map (·.kind),0))
 else if k=2 then condN ins cond
 else if k=4 then(if ins.length<=32 then condN ins cond else([],2))
 else if k=3 then projectsR checkX ins cols
 else if k=5 then groupsR checkX ins group aggs
 else if k=6 then orderN ins order
 else if k=7 then(if n<0 then([],1)else(ins,0))
 else(ins,0)
mutual
def schemaY (db:List Tbl):Qy->List Int×Int
 | .mk k tab subs cond cols group aggs order n=>match schemaYs db subs []with
  | .error e=>([],e)
  | .ok ins=>schN db k tab cond cols group aggs order n ins
def schemaYs (db:List Tbl):List Qy->List Int->Except Int (List Int)
 | [],acc=>.ok acc
 | q::l,acc=>if(schemaY db q).2≠0 then .error (schemaY db q).2 else schemaYs db l (acc++(schemaY db q).1)
end
def sumLen (db:List Tbl):List Qy->Nat
 | []=>0
 | q::l=>(schemaY db q).1.length+sumLen db l
theorem Nu {db:List Tbl} {l:List Qy} {k:Nat} {a:Qy} (h:l[k]?=some a):sumLen db (l.take (k+1))=sumLen db (l.take k)+(schemaY db a).1.length:=by
 obtain⟨hk,rfl⟩:=List.getElem?_eq_some_iff.1 h;clear h
 induction l generalizing k with
 | nil=>simp at hk
 | cons b l ih=>
  cases k with
  | zero=>simp[sumLen]
  | succ k=>
   simp only[List.length_cons,Nat.add_lt_add_iff_right]at hk;have:=ih hk;simp only[List.take_succ_cons,sumLen,List.getElem_cons_succ,this];omega
theorem Lj (db:List Tbl) (l:List Qy) (k:Nat):sumLen db (l.take k)<=sumLen db l:=by
 induction l generalizing k with
 | nil=>simp[sumLen]
 | cons a l ih=>
  cases k with
  | zero=>simp[sumLen]
  | succ k=>simp only[List.take_succ_cons,sumLen];have:=ih k;omega
mutual
def QyFine (db:List Tbl):Qy->Prop
 | .mk k tab subs cond cols group aggs order n=>nodeQ k tab subs.length cond cols group aggs order n=true/\(k=2\/k=4->XpFine cond)/\(∀x∈cols,XpFine x)/\(∀a∈aggs,2<=a.fn->a.fn<=4->XpFine a.arg)/\sumLen db subs<=1000000/\qyFineL db subs
def qyFineL (db:List Tbl):List Qy->Prop
 | []=>True
 | q::l=>QyFine db q/\qyFineL db l
end
theorem E9 {db:List Tbl}:∀{l:List Qy},qyFineL db l->∀a∈l,QyFine db a
 | [],_,a,h=>by cases h
 | e::l,hb,a,h=>by
  rcases List.mem_cons.1 h with rfl|h
  ·exact hb.1
  ·exact E9 hb.2 a h
def schJ (db:List Tbl) (k:Int) (tab:Bytes) (cond:Xp) (cols:List Xp) (group:List Int) (aggs:List Ag) (order:List Od) (n:Int):Except Int (List Int)->List Int×Int
 | .error e=>([],e)
 | .ok ins=>schN db k tab cond cols group aggs order n ins
theorem Dg (db:List Tbl) (k:Int) (tab:Bytes) (subs:List Qy) (cond:Xp) (cols:List Xp) (group:List Int) (aggs:List Ag) (order:List Od) (n:Int):
 schemaY db (.mk k tab subs cond cols group aggs order n)=schJ db k tab cond cols group aggs order n (schemaYs db subs []):=by
 unfold schemaY
 cases schemaYs db subs []<;>rfl
theorem Cx {db:List Tbl} {q:Qy} {l:List Qy} {acc:List Int} (h:(schemaY db q).2≠0):schemaYs db (q::l) acc=.error (schemaY db q).2:=by unfold schemaYs;rw[if_pos h]
theorem Dq {db:List Tbl} {q:Qy} {l:List Qy} {acc:List Int} (h:(schemaY db q).2=0):schemaYs db (q::l) acc=schemaYs db l (acc++(schemaY db q).1):=by
 conv=>lhs;unfold schemaYs
 rw[if_neg (fun hn=>hn h)]
def Qy.kind:Qy->Int|.mk k _ _ _ _ _ _ _ _=>k
def Qy.zero:Qy:=.mk 0 [] [] Xp.zero [] [] [] [] 0
def Qy.scan (t:Bytes):Qy:=.mk 1 t [] Xp.zero [] [] [] [] 0
def firstE (e f:Int):Int:=if e=0 then f else e
def scopeY (db:List Tbl):List Bytes->List Bytes->Except Int (List Tbl)
 | _,[]=>.ok []
 | past,n::l=>match db.find? (fun t=>t.name==n)with
  | none=>.error 5
  | some t=>if n∈past then .error 6 else match scopeY db (past++[n]) l with
   | .error e=>.error e
   | .ok r=>.ok (t::r)
def bresY (sc:List Tbl) (k:Nat) (e:Int) (x:Ex):Xp×Int:=if e=0 then(okX (Ex.res (flatC (sc.take k)) x),errX (Ex.res (flatC (sc.take k)) x))else(Xp.zero,e)
def joinsY (sc:List Tbl):Nat->List Ex->List Bytes->Qy->Int->Qy×Int
 | i,x::on,t::fr,q,e=>joinsY sc (i+1) on fr (.mk 4 [] [q,Qy.scan t] (bresY sc (i+2) e x).1 [] [] [] [] 0) (bresY sc (i+2) e x).2
 | _,_,_,q,e=>(q,e)
def whereY (sc:List Tbl) (x:Ex) (q:Qy) (e:Int):Qy×Int:=
 if x.isZero then(q,e)else(.mk 2 [] [q] (bresY sc sc.length e x).1 [] [] [] [] 0,(bresY sc sc.length e x).2)
def groupY (sc:List Tbl):List Ex->List Int->Int->List Int×Int
 | [],g,e=>(g,e)
 | x::l,g,e=>groupY sc l (if(bresY sc sc.length e x).1.n∈g then g else g++[(bresY sc sc.length e x).1.n]) (bresY sc sc.length e x).2
def itemY (sc:List Tbl) (e:Int) (it:Pk):Xp×Int:=if it.fn=1 then(Xp.zero,e)else bresY sc sc.length e it.arg
def itemsY (sc:List Tbl):List Pk->List Xp->Int->List Xp×Int
 | [],acc,e=>(acc,e)
 | it::l,acc,e=>itemsY sc l (acc++[(itemY sc e it).1]) (itemY sc e it).2
def placeY (g:List Int) (n:Int):Int:=if n∈g then(g.idxOf n:Int)else -1
def aggsY (g:List Int):List Pk->List Xp->List Ag->List Xp->Int->(List Ag×List Xp)×Int
 | it::l,x::xs,ag,out,e=>
  if it.fn≠0 then aggsY g l xs (ag++[⟨it.fn,x⟩]) (out++[Xp.col ((g.length:Int)+(ag.length:Int))]) e
  else aggsY g l xs ag (out++[Xp.col (placeY g x.n)]) (if x.op≠1\/placeY g x.n<0 then firstE e 1 else e)
 | _,_,ag,out,e=>((ag,out),e)
def ordersY (width:Int):List Srt->List Od->Int->List Od×Int
 | [],l,e=>(l,e)
 | s::r,l,e=>ordersY width r (l++[⟨s.place - 1,s.down⟩]) (if s.place<1\/width<s.place then firstE e 1 else e)
def shapeY (sc:List Tbl) (x:Sel) (items:List Xp) (q:Qy) (e:Int):Qy×Int:=
 let width:Int:=if 0<items.length then items.length else(flatC sc).length
 let q1:=if 0<items.length then Qy.mk 3 [] [q] Xp.zero items [] [] [] 0 else q
 let q2:=if x.distinct then Qy.mk 8 [] [q1] Xp.zero [] [] [] [] 0 else q1
 let o:=ordersY width x.sort [] e
 let q3:=if 0<x.sort.length then Qy.mk 6 [] [q2] Xp.zero [] [] [] o.1 0 else q2
 let q4:=if 0<=x.limit then Qy.mk 7 [] [q3] Xp.zero [] [] [] [] x.limit else q3
 (q4,o.2)
def widthY (sc:List Tbl) (items:List Xp):Int:=if 0<items.length then items.length else(flatC sc).length
def shapeR4 (l:Int) (o:List Od×Int) (q3:Qy):Qy×Int:=(if 0<=l then Qy.mk 7 [] [q3] Xp.zero [] [] [] [] l else q3,o.2)
def shapeR3 (wd:Int) (so:List Srt) (l:Int) (q2:Qy) (e:Int):Qy×Int:=shapeR4 l (ordersY wd so [] e) (if 0<so.length then Qy.mk 6 [] [q2] Xp.zero [] [] [] (ordersY wd so [] e).1 0 else q2)
def shapeR2 (wd:Int) (d:Bool) (so:List Srt) (l:Int) (q1:Qy) (e:Int):Qy×Int:=shapeR3 wd so l (if d=true then Qy.mk 8 [] [q1] Xp.zero [] [] [] [] 0 else q1) e
def shapeR (sc:List Tbl) (d:Bool) (so:List Srt) (l:Int) (items:List Xp) (q:Qy) (e:Int):Qy×Int:=shapeR2 (widthY sc items) d so l (if 0<items.length then Qy.mk 3 [] [q] Xp.zero items [] [] [] 0 else q) e
def groupedY (x:Sel):Bool:=decide (0<x.group.length)||x.items.any (fun it=>decide (it.fn≠0))
def boundY (sc:List Tbl) (x:Sel):Qy×Int:=
 let j:=joinsY sc 0 x.on (x.from_.drop 1) (Qy.scan (x.from_.headD [])) 0
 let f:=whereY sc x.where_ j.1 j.2
 let g:=groupY sc x.group [] f.2
 let it:=itemsY sc x.items [] g.2
 if groupedY x then
  let e:=if it.1.length=0 then firstE it.2 1 else it.2
  let a:=aggsY g.1 x.items it.1 [] [] e
  shapeY sc x a.1.2 (.mk 5 [] [f.1] Xp.zero [] g.1 a.1.1 [] 0) a.2
 else shapeY sc x it.1 f.1 it.2
def bindY (sch:List Tbl->Qy->List Int×Int) (db:List Tbl) (x:Sel):Qy×Int:=
 match scopeY db [] x.from_ with
 | .error e=>(Qy.zero,e)
 | .ok sc=>
  let b:=boundY sc x;let e:=if b.2=0 then(sch db b.1).2 else b.2
  if e=0 then(b.1,0)else(Qy.zero,e)
mutual
def ndE:Ex->Nat
 | .mk _ _ _ _ l=>1+ndEs l
def ndEs:List Ex->Nat
 | []=>0
 | a::l=>ndE a+ndEs l
end
theorem W7:∀e:Ex,∀most:Int,sizeE e most<=most->sizeE e most=(ndE e:Int):=by
 refine Ex.ind fun op t n v args ih=>?_;have key:∀l:List Ex,(∀a∈l,∀most:Int,sizeE a most<=most->sizeE a most=(ndE a:Int))->∀most k:Int,sizeL l most k<=most->sizeL l most k=k+(ndEs l:Int):=by
  intro l
  induction l with
  | nil=>intro _ most k _;simp[sizeL,ndEs]
  | cons a l ihl=>
   intro hl most k h;unfold sizeL at h ⊢;by_cases hk:most<k
   ·rw[if_pos hk]at h;omega
   ·rw[if_neg hk]at h ⊢;have h2:=ihl (fun b hb=>hl b (by simp[hb])) most _ h;rw[h2]at h ⊢;have h3:=hl a (by simp) (most - k) (by omega);rw[h3];simp only[ndEs];omega
 intro most h;unfold sizeE at h ⊢;rw[key args ih most 1 h];unfold ndE;omega
theorem good_nd {e:Ex} (h:e.good=true):e.formed=true/\ndE e<=200:=by
 unfold Ex.good at h;rw[Bool.and_eq_true,decide_eq_true_eq]at h;have:=W7 e 200 h.1;exact⟨h.2,by omega⟩
theorem ax (sc:List (Bytes×Bytes)):∀e:Ex,∀k,Ex.res sc e=.error k->k≠0:=by
 refine Ex.ind fun op t n v args ih=>?_;intro k h;have key:∀l:List Ex,(∀a∈l,∀k,Ex.res sc a=.error k->k≠0)->∀k,resL sc l=.error k->k≠0:=by
  intro l
  induction l with
  | nil=>intro _ k h;unfold resL at h;cases h
  | cons a l ihl=>
   intro hl k h;unfold resL at h
   cases h1:Ex.res sc a with
   | error x=>rw[h1]at h;injection h with h;subst h;exact hl a (by simp) _ h1
   | ok x=>
    rw[h1]at h
    cases h2:resL sc l with
    | error y=>rw[h2]at h;injection h with h;subst h;exact ihl (fun d hd=>hl d (by simp[hd])) _ h2
    | ok y=>rw[h2]at h;cases h
 by_cases ho:op=1
 ·subst ho;rw[G8]at h;have key2:∀l:List Int,pickC l=.error k->k≠0:=by
   intro l h;rcases l with _|⟨i,_|⟨j,l⟩⟩
   ·injection h with h;subst h;decide
   ·cases h
   ·injection h with h;subst h;decide
  exact key2 _ h
 ·rw[Jw _ _ _ _ _ _ ho]at h
  cases h2:resL sc args with
  | error y=>rw[h2]at h;injection h with h;subst h;exact key args ih _ h2
  | ok y=>rw[h2]at h;cases h
theorem Xd (sc:List (Bytes×Bytes)):∀e:Ex,e.formed=true->e.Wf->∀x,Ex.res sc e=.ok x->x.formed=true/\x.Wf/\sizeX x<=ndE e:=by
 refine Ex.ind fun op t n v args ih=>?_;intro hf hw x h;unfold Ex.formed at hf;rw[Bool.and_eq_true]at hf;have key:∀l:List Ex,(∀a∈l,a.formed=true->a.Wf->∀x,Ex.res sc a=.ok x->x.formed=true/\x.Wf/\sizeX x<=ndE a)->(∀a∈l,a.formed=true)->ExsWf l->∀r,resL sc l=.ok r->r.length=l.length/\xformedL r=true/\xpWfL r/\sizeXs r<=ndEs l:=by
  intro l
  induction l with
  | nil=>
   intro _ _ _ r h;unfold resL at h;injection h with h;subst h;exact⟨rfl,rfl,trivial,Nat.le_refl _⟩
  | cons a l ihl=>
   intro hl hfl hwl r h;unfold resL at h
   cases h1:Ex.res sc a with
   | error x=>rw[h1]at h;cases h
   | ok x=>
    rw[h1]at h
    cases h2:resL sc l with
    | error y=>rw[h2]at h;cases h
    | ok y=>
     rw[h2]at h;injection h with h;subst h;obtain⟨e1,e2,e3,e4⟩:=ihl (fun d hd=>hl d (by simp[hd])) (fun d hd=>hfl d (by simp[hd])) hwl.2 _ h2;obtain⟨a1,a2,a3⟩:=hl a (by simp) (hfl a (by simp)) hwl.1 _ h1;exact⟨by simp[e1],by unfold xformedL;rw[a1,e2];rfl,⟨a2,e3⟩,by unfold sizeXs ndEs;omega⟩
 have hn:=hf.1;unfold nodeOk at hn;simp only[Bool.and_eq_true,Bool.or_eq_true,decide_eq_true_eq]at hn;by_cases ho:op=1
 ·subst ho;rw[G8]at h;have key2:∀l:List Int,pickC l=.ok x->∃i,x=Xp.col i:=by
   intro l h;rcases l with _|⟨i,_|⟨j,l⟩⟩
   ·cases h
   ·injection h with h;exact⟨i,h.symm⟩
   ·cases h
  obtain⟨i,rfl⟩:=key2 _ h;refine⟨?_,⟨V.null_wf,trivial⟩,?_⟩
  ·unfold Xp.col Xp.formed;simp[arityX,xformedL]
  ·unfold Xp.col sizeX sizeXs ndE;omega
 ·rw[Jw _ _ _ _ _ _ ho]at h
  cases h2:resL sc args with
  | error y=>rw[h2]at h;cases h
  | ok y=>
   rw[h2]at h;injection h with h;subst h;obtain⟨e1,e2,e3,e4⟩:=key args ih (Ff hf.2) hw.2.2 _ h2;refine⟨?_,⟨hw.2.1,by rw[List.nil_append];exact e3⟩,by rw[List.nil_append];unfold sizeX ndE;omega⟩;obtain⟨⟨⟨⟨⟨h1,h2⟩,h3⟩,h4⟩,h5⟩,h6⟩:=hn;rw[List.nil_append];unfold Xp.formed;rw[e2,e1];simp only[Bool.and_true,Bool.and_eq_true,Bool.or_eq_true,decide_eq_true_eq];refine⟨⟨?_,.inl trivial⟩,h5.symm⟩;rw[h3];unfold arityX;by_cases a1:op=1\/op=2
   ·rw[if_pos a1,if_pos a1]
   ·rw[if_neg a1,if_neg a1];by_cases a2:op=14\/op=15
    ·rw[if_pos a2,if_pos a2]
    ·rw[if_neg a2,if_neg a2,if_pos (by omega)]
theorem Eb {sc:List Tbl} {k:Nat} {e:Int} {x:Ex} (h:(bresY sc k e x).2=0):e=0/\Ex.res (flatC (sc.take k)) x=.ok (bresY sc k e x).1:=by
 unfold bresY at h ⊢;by_cases h0:e=0
 ·rw[if_pos h0]at h ⊢;refine⟨h0,?_⟩
  cases h1:Ex.res (flatC (sc.take k)) x with
  | error y=>rw[h1]at h;exact absurd h (ax _ _ _ h1)
  | ok y=>rfl
 ·rw[if_neg h0]at h;exact absurd h h0
theorem Ja {e:Ex} (h:e.isZero=true):e.brief:=by
 obtain⟨op,t,n,v,args⟩:=e;unfold Ex.isZero at h;simp only[Bool.and_eq_true,decide_eq_true_eq]at h;have h2:args=[]:=List.eq_nil_of_length_eq_zero h.2;subst h2;exact⟨by simp,trivial⟩
theorem Er {e:Ex} (h:condR e=true):e.brief:=by
 unfold condR at h;rw[Bool.or_eq_true]at h;rcases h with h|h
 ·exact Ja h
 ·exact Bb e (good_nd h).1
theorem Cy {p:Pk} (h:p.picked=true):p.arg.brief:=by
 unfold Pk.picked at h;split at h
 ·exact Ja h
 ·rw[Bool.and_eq_true]at h;exact Bb _ (good_nd h.2).1
theorem Hn {db:List Tbl}:∀{l past:List Bytes} {e:Int},scopeY db past l=.error e->e≠0
 | [],past,e,h=>by unfold scopeY at h;cases h
 | n::l,past,e,h=>by
  unfold scopeY at h;split at h
  ·injection h with h;subst h;decide
  ·split at h
   ·injection h with h;subst h;decide
   ·split at h
    ·rename_i e2 he;injection h with h;subst h;exact Hn he
    ·cases h
theorem Gv {sc:List Tbl} {k:Nat} {e:Int} {x:Ex} (h:(bresY sc k e x).2=0) (hg:x.good=true) (hw:x.Wf):XpFine (bresY sc k e x).1:=by
 obtain⟨hf,hn⟩:=good_nd hg;obtain⟨a,b,c⟩:=Xd _ x hf hw _ (Eb h).2;exact⟨a,b,by omega⟩
theorem Pl (n:Int):XpFine (Xp.col n):=⟨by unfold Xp.col Xp.formed;simp[arityX,xformedL],⟨V.null_wf,trivial⟩,by unfold Xp.col sizeX sizeXs;omega⟩
theorem firstE_bad {e:Int} (h:firstE e 1=0):False:=by
 unfold firstE at h;split at h
 ·cases h
 ·rename_i h1;exact h1 h
theorem Lv (ck:List Int->Xp->Int×Int) (ins:List Int):∀(l:List Xp) (out:List Int),(projR ck ins l out).1.length<=out.length+l.length/\((projR ck ins l out).2=0->(projR ck ins l out).1.length=out.length+l.length)
 | [],out=>by unfold projR;simp
 | x::l,out=>by
  unfold projR;by_cases h:(ck ins x).2≠0
  ·rw[if_pos h];exact⟨by simp,fun h2=>absurd h2 h⟩
  ·rw[if_neg h];have:=Lv ck ins l (out++[(ck ins x).1]);simp only[List.length_append,List.length_cons,List.length_nil]at this ⊢;exact⟨by omega,fun h2=>by have:=this.2 h2;omega⟩
theorem Gc (ck:List Int->Xp->Int×Int) (ins:List Int) (l:List Xp):(projectsR ck ins l).1.length<=32/\((projectsR ck ins l).2=0->(projectsR ck ins l).1.length=l.length):=by
 unfold projectsR;by_cases h:l.length=0
 ·rw[if_pos h];exact⟨by simp,fun h2=>by cases h2⟩
 ·rw[if_neg h];by_cases h2:32<l.length
  ·rw[if_pos h2];exact⟨by simp,fun h2=>by cases h2⟩
  ·rw[if_neg h2];have:=Lv ck ins l [];simp only[List.length_nil]at this;exact⟨by omega,fun h2=>by have:=this.2 h2;omega⟩
theorem O5 (ins:List Int):∀(l ks out r:List Int),grpR ins l ks out=some r->r.length=out.length+l.length
 | [],ks,out,r,h=>by unfold grpR at h;injection h with h;subst h;rfl
 | c::l,ks,out,r,h=>by
  unfold grpR at h;split at h
  ·cases h
  ·have:=O5 ins l _ _ r h;simp only[List.length_append,List.length_cons,List.length_nil]at this ⊢;omega
theorem Pt (ck:List Int->Xp->Int×Int) (ins:List Int):∀(l:List Ag) (out:List Int),(agsR ck ins l out).1.length<=out.length+l.length
 | [],out=>by unfold agsR;simp
 | x::l,out=>by
  unfold agsR;split
  ·simp
  ·have:=Pt ck ins l (out++[(aggR ck ins x).1]);simp only[List.length_append,List.length_cons,List.length_nil]at this ⊢;omega
theorem O6 (ck:List Int->Xp->Int×Int) (ins group:List Int) (aggs:List Ag):(groupsR ck ins group aggs).1.length<=32:=by
 unfold groupsR;split
 ·simp
 ·split
  ·simp
  ·rename_i out h;split
   ·simp
   ·have h1:=O5 ins _ _ _ _ h;have h2:=Pt ck ins aggs out;simp only[List.length_nil]at h1;omega
theorem Fw (ins:List Int) (c:Xp):(condN ins c).1.length<=ins.length/\((condN ins c).2=0->(condN ins c).1=ins):=by
 unfold condN;split
 ·rename_i h;exact⟨by simp,fun h2=>absurd h2 h⟩
 ·exact⟨Nat.le_refl _,fun _=>rfl⟩
theorem J4 (ins:List Int) (o:List Od):(orderN ins o).1.length<=ins.length/\((orderN ins o).2=0->(orderN ins o).1=ins):=by
 unfold orderN;split
 ·exact⟨by simp,fun h=>by cases h⟩
 ·exact⟨Nat.le_refl _,fun _=>rfl⟩
theorem W9 {db:List Tbl} (hdb:∀t∈db,t.cols.length<=20) (k:Int) (tab:Bytes) (cond:Xp) (cols:List Xp) (group:List Int) (aggs:List Ag) (order:List Od) (n:Int) (ins:List Int):(schN db k tab cond cols group aggs order n ins).1.length<=ins.length+32:=by
 unfold schN;split
 ·split
  ·simp
  ·rename_i t ht;have:=hdb t (List.mem_of_find?_eq_some ht);simp only[List.length_append,List.length_map];omega
 ·split
  ·have:=(Fw ins cond).1;omega
  ·split
   ·split
    ·have:=(Fw ins cond).1;omega
    ·simp
   ·split
    ·have:=(Gc checkX ins cols).1;omega
    ·split
     ·have:=O6 checkX ins group aggs;omega
     ·split
      ·have:=(J4 ins order).1;omega
      ·split
       ·split<;>simp
       ·simp
theorem G7 {db:List Tbl}:∀(l:List Qy) (acc ins:List Int),schemaYs db l acc=.ok ins->ins.length=acc.length+sumLen db l
 | [],acc,ins,h=>by unfold schemaYs at h;injection h with h;subst h;rfl
 | q::l,acc,ins,h=>by
  unfold schemaYs at h;split at h
  ·cases h
  ·have:=G7 l _ _ h;simp only[List.length_append,sumLen]at this ⊢;omega
theorem Js {db:List Tbl} (hdb:∀t∈db,t.cols.length<=20):∀q:Qy,(schemaY db q).1.length<=40 * nodesQ q:=by
 refine Qy.ind fun k tab subs cond cols group aggs order n ih=>?_;have key:∀l:List Qy,(∀a∈l,(schemaY db a).1.length<=40 * nodesQ a)->sumLen db l<=40 * nodesQs l:=by
  intro l
  induction l with
  | nil=>intro _;exact Nat.le_refl _
  | cons a l ihl=>
   intro h;have h1:=h a (by simp);have h2:=ihl (fun b hb=>h b (by simp[hb]));unfold sumLen nodesQs;omega
 rw[Dg];unfold nodesQ
 cases h:schemaYs db subs []with
 | error e=>simp[schJ]
 | ok ins=>
  have h1:=G7 _ _ _ h;have h2:=key subs ih;have h3:=W9 hdb k tab cond cols group aggs order n ins;simp only[List.length_nil]at h1;show(schN db k tab cond cols group aggs order n ins).1.length<=_;omega
theorem Lo {db:List Tbl} {q:Qy} {k:Int} {cond:Xp} {cols:List Xp} {group:List Int} {aggs:List Ag} {order:List Od} {n:Int} (h:(schemaY db (.mk k [] [q] cond cols group aggs order n)).2=0):
 (schemaY db q).2=0/\schemaY db (.mk k [] [q] cond cols group aggs order n)=schN db k [] cond cols group aggs order n (schemaY db q).1:=by
 rw[Dg]at h ⊢
 by_cases h0:(schemaY db q).2=0
 ·refine⟨h0,?_⟩;rw[Dq h0];rfl
 ·rw[Cx h0]at h;exact absurd h h0
theorem schY_keep {db:List Tbl} {q:Qy} {k:Int} {cond:Xp} {order:List Od} {n:Int} (hk:k=2\/k=6\/k=7\/k=8) (h:(schemaY db (.mk k [] [q] cond [] [] [] order n)).2=0):
 (schemaY db q).2=0/\(schemaY db (.mk k [] [q] cond [] [] [] order n)).1=(schemaY db q).1:=by
 obtain⟨h1,h2⟩:=Lo h
 rw[h2]at h ⊢
 refine⟨h1,?_⟩
 rcases hk with rfl|rfl|rfl|rfl
 ·exact(Fw _ _).2 h
 ·exact(J4 _ _).2 h
 ·have e:schN db 7 [] cond [] [] [] order n (schemaY db q).1=if n<0 then([],1)else((schemaY db q).1,0):=rfl;rw[e]at h ⊢;split at h
  ·cases h
  ·rename_i hn;rw[if_neg hn]
 ·rfl
theorem Uf {db:List Tbl} {t:Bytes} (h:(schemaY db (Qy.scan t)).2=0):∃tb,db.find? (fun u=>u.name==t)=some tb/\(schemaY db (Qy.scan t)).1.length=tb.cols.length:=by
 have e:schemaY db (Qy.scan t)=(match db.find? (fun u=>u.name==t)with|none=>([],5)|some u=>([]++u.cols.map (·.kind),0)):=by
  unfold Qy.scan;rw[Dg];rfl
 rw[e]at h ⊢
 cases hf:db.find? (fun u=>u.name==t)with
 | none=>rw[hf]at h;cases h
 | some u=>exact⟨u,rfl,by simp⟩
theorem Ug {db:List Tbl} {q r:Qy} {cond:Xp} (h:(schemaY db (.mk 4 [] [q,r] cond [] [] [] [] 0)).2=0):
 (schemaY db q).2=0/\(schemaY db r).2=0/\(schemaY db (.mk 4 [] [q,r] cond [] [] [] [] 0)).1=(schemaY db q).1++(schemaY db r).1:=by
 rw[Dg]at h ⊢
 by_cases h0:(schemaY db q).2=0
 ·rw[Dq h0]at h ⊢;by_cases h1:(schemaY db r).2=0
  ·rw[Dq h1]at h ⊢;refine⟨h0,h1,?_⟩;have e:schJ db 4 [] cond [] [] [] [] 0 (schemaYs db [] ([]++(schemaY db q).1++(schemaY db r).1))=if((schemaY db q).1++(schemaY db r).1).length<=32 then condN ((schemaY db q).1++(schemaY db r).1) cond else([],2):=rfl
   rw[e]at h ⊢;split at h
   ·rename_i hl;rw[if_pos hl];exact(Fw _ _).2 h
   ·cases h
  ·rw[Cx h1]at h;exact absurd h h1
 ·rw[Cx h0]at h;exact absurd h h0
mutual
def QyNice:Qy->Prop
 | .mk _ _ subs cond cols group aggs order _=>cond.short/\(∀x∈cols,x.short)/\(∀a∈aggs,a.arg.short)/\cols.length+group.length+aggs.length+order.length<=1000000/\subs.length<=1000000/\qyNiceL subs
def qyNiceL:List Qy->Prop
 | []=>True
 | q::l=>QyNice q/\qyNiceL l
end
theorem Pv {x:Xp} (h:x.isZero=true):x.short:=by
 obtain⟨op,n,v,args⟩:=x;unfold Xp.isZero at h;simp only[Bool.and_eq_true,decide_eq_true_eq]at h;have h2:args=[]:=List.eq_nil_of_length_eq_zero h.2;subst h2;exact⟨by simp,trivial⟩
theorem J8 {k:Int} {tab:Bytes} {ns:Nat} {cond:Xp} {cols:List Xp} {group:List Int} {aggs:List Ag} {order:List Od} {n:Int} (h:nodeQ k tab ns cond cols group aggs order n=true) (h1:k=2\/k=4->XpFine cond):cond.short/\cols.length+group.length+aggs.length+order.length<=1000000:=by
 unfold nodeQ at h;simp only[Bool.and_eq_true,Bool.or_eq_true,decide_eq_true_eq]at h;obtain⟨⟨⟨⟨⟨⟨⟨⟨⟨⟨a1,a2⟩,a3⟩,a4⟩,a5⟩,a6⟩,a7⟩,a8⟩,a9⟩,a10⟩,a11⟩:=h;refine⟨?_,a10⟩;rcases a4 with(a4|a4)|a4
 ·exact Be _ (h1 (.inl a4)).formed
 ·exact Be _ (h1 (.inr a4)).formed
 ·exact Pv a4
structure QG (db:List Tbl) (m:Nat) (q:Qy):Prop where
 fine:QyFine db q
 nodes:nodesQ q<=m
 nice:QyNice q
theorem QG.mono {db:List Tbl} {m n:Nat} {q:Qy} (h:QG db m q) (hm:m<=n):QG db n q:=⟨h.fine,Nat.le_trans h.nodes hm,h.nice⟩
theorem QG.scan (db:List Tbl) (t:Bytes):QG db 1 (Qy.scan t):=by
 refine⟨⟨?_,fun h=>?_,?_,?_,by simp[sumLen],trivial⟩,by unfold Qy.scan nodesQ nodesQs;omega,⟨⟨by simp,trivial⟩,fun x hx=>absurd hx (by simp),fun x hx=>absurd hx (by simp),by simp,by simp,trivial⟩⟩
 ·unfold nodeQ;simp[Xp.zero,Xp.isZero,Xp.op,Xp.n,Xp.val,Xp.args]
 ·rcases h with h|h<;>cases h
 ·intro x hx;cases hx
 ·intro x hx;cases hx
theorem QG.over {db:List Tbl} (hdb:∀t∈db,t.cols.length<=20) {m:Nat} {q:Qy} (h:QG db m q) (hm:m<=1000) {k:Int} {cond:Xp} {cols:List Xp} {group:List Int} {aggs:List Ag} {order:List Od} {n:Int}
 (hn:nodeQ k [] 1 cond cols group aggs order n=true) (h1:k=2\/k=4->XpFine cond) (h2:∀x∈cols,XpFine x) (h3:∀a∈aggs,2<=a.fn->a.fn<=4->XpFine a.arg) (h4:∀a∈aggs,a.arg.short):QG db (m+1) (.mk k [] [q] cond cols group aggs order n):=by
 have hs:=Js hdb q
 have:=h.nodes
 refine⟨⟨hn,h1,h2,h3,by unfold sumLen sumLen;omega,h.fine,trivial⟩,by unfold nodesQ nodesQs nodesQs;omega,⟨(J8 hn h1).1,fun x hx=>Be _ (h2 x hx).formed,h4,(J8 hn h1).2,by simp,h.nice,trivial⟩⟩
theorem QG.join {db:List Tbl} (hdb:∀t∈db,t.cols.length<=20) {m:Nat} {q:Qy} (h:QG db m q) (hm:m<=1000) {cond:Xp} (h1:XpFine cond) (t:Bytes):QG db (m+2) (.mk 4 [] [q,Qy.scan t] cond [] [] [] [] 0):=by
 have hs:=Js hdb q;have ht:=Js hdb (Qy.scan t);have h2:=QG.scan db t;have:=h.nodes;have:=h2.nodes;refine⟨⟨?_,fun _=>h1,?_,?_,by unfold sumLen sumLen sumLen;omega,h.fine,h2.fine,trivial⟩,by unfold nodesQ nodesQs nodesQs nodesQs;omega,⟨Be _ h1.formed,fun x hx=>absurd hx (by simp),fun x hx=>absurd hx (by simp),by simp,by simp,h.nice,h2.nice,trivial⟩⟩
 ·unfold nodeQ;simp
 ·intro x hx;cases hx
 ·intro x hx;cases hx
theorem joinsY_ok {sc:List Tbl}:∀(on:List Ex) (fr:List Bytes) (i:Nat) (q:Qy) (e:Int),(joinsY sc i on fr q e).2=0->e=0
 | [],fr,i,q,e,h=>by unfold joinsY at h;exact h
 | x::on,[],i,q,e,h=>by unfold joinsY at h;exact h
 | x::on,t::fr,i,q,e,h=>by unfold joinsY at h;exact(Eb (joinsY_ok on fr _ _ _ h)).1
theorem Ii {db sc:List Tbl} (hdb:∀t∈db,t.cols.length<=20):∀(on:List Ex) (fr:List Bytes) (i:Nat) (q:Qy) (e:Int) (m:Nat),(∀x∈on,x.good=true/\x.Wf)->QG db m q->m+2 * on.length<=1000->(joinsY sc i on fr q e).2=0->QG db (m+2 * on.length) (joinsY sc i on fr q e).1
 | [],fr,i,q,e,m,_,hq,_,h=>by unfold joinsY;exact hq.mono (by simp)
 | x::on,[],i,q,e,m,_,hq,_,h=>by unfold joinsY;exact hq.mono (by omega)
 | x::on,t::fr,i,q,e,m,hx,hq,hm,h=>by
  unfold joinsY at h ⊢;have h1:=joinsY_ok _ _ _ _ _ h;have h2:=Gv h1 (hx x (by simp)).1 (hx x (by simp)).2;simp only[List.length_cons]at hm ⊢;have:=Ii hdb on fr (i+1) _ _ (m+2) (fun y hy=>hx y (by simp[hy])) (hq.join hdb (by omega) h2 t) (by omega) h;exact this.mono (by omega)
def colsOf (db:List Tbl):List Bytes->Nat
 | []=>0
 | n::l=>((db.find? fun t=>t.name==n).map (·.cols.length)).getD 0+colsOf db l
theorem Lp {db:List Tbl} {t:Bytes} (h:(schemaY db (Qy.scan t)).2=0):(schemaY db (Qy.scan t)).1.length=((db.find? fun u=>u.name==t).map (·.cols.length)).getD 0:=by
 obtain⟨tb,h1,h2⟩:=Uf h;rw[h1,h2];rfl
theorem Ij {db sc:List Tbl}:∀(on:List Ex) (fr:List Bytes) (i:Nat) (q:Qy) (e:Int),on.length=fr.length->(schemaY db (joinsY sc i on fr q e).1).2=0->(schemaY db q).2=0/\(schemaY db (joinsY sc i on fr q e).1).1.length=(schemaY db q).1.length+colsOf db fr
 | [],[],i,q,e,_,h=>by unfold joinsY at h ⊢;exact⟨h,rfl⟩
 | x::on,t::fr,i,q,e,hl,h=>by
  unfold joinsY at h ⊢;obtain⟨h1,h2⟩:=Ij on fr _ _ _ (by simpa using hl) h;obtain⟨h3,h4,h5⟩:=Ug h1;refine⟨h3,?_⟩;rw[h2,h5,List.length_append,Lp h4,show colsOf db (t::fr)=((db.find? fun t'=>t'.name==t).map (·.cols.length)).getD 0+colsOf db fr from rfl];omega
theorem Ld {sc:List Tbl} {x:Ex} {q:Qy} {e:Int} (h:(whereY sc x q e).2=0):e=0:=by
 unfold whereY at h;split at h
 ·exact h
 ·exact(Eb h).1
theorem Np {db sc:List Tbl} (hdb:∀t∈db,t.cols.length<=20) {x:Ex} {q:Qy} {e:Int} {m:Nat} (hx:condR x=true) (hw:x.Wf) (hq:QG db m q) (hm:m<=1000) (h:(whereY sc x q e).2=0):QG db (m+1) (whereY sc x q e).1:=by
 unfold whereY at h ⊢;by_cases hz:x.isZero=true
 ·rw[if_pos hz]at h ⊢;exact hq.mono (by omega)
 ·rw[if_neg hz]at h ⊢;have hg:x.good=true:=by
   unfold condR at hx;rw[Bool.or_eq_true]at hx;exact hx.resolve_left hz
  have h2:=Gv h hg hw;refine hq.over hdb hm (by unfold nodeQ;simp) (fun _=>h2) ?_ ?_ ?_
  ·intro x hx;cases hx
  ·intro x hx;cases hx
  ·intro x hx;cases hx
theorem whereY_cols {db sc:List Tbl} {x:Ex} {q:Qy} {e:Int} (h:(schemaY db (whereY sc x q e).1).2=0):(schemaY db q).2=0/\(schemaY db (whereY sc x q e).1).1=(schemaY db q).1:=by
 unfold whereY at h ⊢;split at h
 ·rename_i hz;rw[if_pos hz];exact⟨h,rfl⟩
 ·rename_i hz;rw[if_neg hz];exact schY_keep (.inl rfl) h
theorem Fv {sc:List Tbl}:∀(l:List Ex) (g:List Int) (e:Int),(groupY sc l g e).2=0->e=0
 | [],g,e,h=>by unfold groupY at h;exact h
 | x::l,g,e,h=>by unfold groupY at h;exact(Eb (Fv l _ _ h)).1
theorem Gr {sc:List Tbl}:∀(l:List Ex) (g:List Int) (e:Int),(groupY sc l g e).1.length<=g.length+l.length
 | [],g,e=>by unfold groupY;simp
 | x::l,g,e=>by
  unfold groupY;have:=Gr (sc:=sc) l (if(bresY sc sc.length e x).1.n∈g then g else g++[(bresY sc sc.length e x).1.n]) (bresY sc sc.length e x).2;have h2:(if(bresY sc sc.length e x).1.n∈g then g else g++[(bresY sc sc.length e x).1.n]).length<=g.length+1:=by split<;>simp
  simp only[List.length_cons];omega
def ItemFine (it:Pk) (x:Xp):Prop:=if it.fn=1 then x=Xp.zero else XpFine x
inductive ItemsFine:List Pk->List Xp->Prop
 | nil:ItemsFine [] []
 | cons {it:Pk} {x:Xp} {l:List Pk} {xs:List Xp}:ItemFine it x->ItemsFine l xs->ItemsFine (it::l) (x::xs)
theorem ItemsFine.len {l:List Pk} {xs:List Xp} (h:ItemsFine l xs):xs.length=l.length:=by
 induction h with
 | nil=>rfl
 | cons _ _ ih=>simp[ih]
theorem Ea {sc:List Tbl}:∀(l:List Pk) (acc:List Xp) (e:Int),(itemsY sc l acc e).2=0->e=0
 | [],acc,e,h=>by unfold itemsY at h;exact h
 | it::l,acc,e,h=>by
  unfold itemsY at h;have h1:=Ea l _ _ h;unfold itemY at h1;split at h1
  ·exact h1
  ·exact(Eb h1).1
theorem Im {sc:List Tbl}:∀(l:List Pk) (acc:List Xp) (e:Int),(∀it∈l,it.picked=true/\it.arg.Wf)->(itemsY sc l acc e).2=0->∃xs,(itemsY sc l acc e).1=acc++xs/\ItemsFine l xs
 | [],acc,e,_,h=>⟨[],by unfold itemsY;simp,.nil⟩
 | it::l,acc,e,hp,h=>by
  unfold itemsY at h ⊢;obtain⟨xs,h1,h2⟩:=Im l _ _ (fun y hy=>hp y (by simp[hy])) h;refine⟨(itemY sc e it).1::xs,by rw[h1];simp,.cons ?_ h2⟩;have h3:=Ea _ _ _ h;unfold ItemFine;unfold itemY at h3 ⊢;by_cases hf:it.fn=1
  ·rw[if_pos hf,if_pos hf]
  ·rw[if_neg hf]at h3 ⊢;rw[if_neg hf];have hpk:=(hp it (by simp)).1;unfold Pk.picked at hpk;rw[if_neg hf,Bool.and_eq_true]at hpk;exact Gv h3 hpk.2 (hp it (by simp)).2
theorem Ke {sc:List Tbl}:∀(l:List Pk) (acc:List Xp) (e:Int),(itemsY sc l acc e).1.length=acc.length+l.length
 | [],acc,e=>by unfold itemsY;simp
 | it::l,acc,e=>by
  unfold itemsY;rw[Ke l];simp only[List.length_append,List.length_cons,List.length_nil];omega
def AgFine (a:Ag):Prop:=(a.fn=1->a.arg.isZero=true)/\(2<=a.fn->a.fn<=4->XpFine a.arg)/\a.arg.short
theorem Fk {g:List Int}:∀(l:List Pk) (xs:List Xp) (ag:List Ag) (out:List Xp) (e:Int),(aggsY g l xs ag out e).2=0->e=0
 | [],xs,ag,out,e,h=>by unfold aggsY at h;exact h
 | it::l,[],ag,out,e,h=>by unfold aggsY at h;exact h
 | it::l,x::xs,ag,out,e,h=>by
  unfold aggsY at h;split at h
  ·exact Fk l xs _ _ _ h
  ·have h1:=Fk l xs _ _ _ h;split at h1
   ·exact(firstE_bad h1).elim
   ·exact h1
theorem Gx {g:List Int}:∀(l:List Pk) (xs:List Xp) (ag:List Ag) (out:List Xp) (e:Int),ItemsFine l xs->(∀a∈ag,AgFine a)->(∀x∈out,XpFine x) ->
 (∀a∈(aggsY g l xs ag out e).1.1,AgFine a)/\(∀x∈(aggsY g l xs ag out e).1.2,XpFine x)/\(aggsY g l xs ag out e).1.1.length<=ag.length+l.length/\(aggsY g l xs ag out e).1.2.length=out.length+l.length
 | [],xs,ag,out,e,hi,h1,h2=>by
  cases hi;unfold aggsY;exact⟨h1,h2,by simp,by simp⟩
 | it::l,x::xs,ag,out,e,hi,h1,h2=>by
  cases hi with
  | cons hx hi=>
   unfold aggsY;by_cases hf:it.fn≠0
   ·rw[if_pos hf];have:=Gx (g:=g) l xs (ag++[⟨it.fn,x⟩]) (out++[Xp.col ((g.length:Int)+(ag.length:Int))]) e hi (fun a ha=>by
     rcases List.mem_append.1 ha with ha|ha
     ·exact h1 a ha
     ·rw[List.mem_singleton]at ha;subst ha;unfold ItemFine at hx;refine⟨fun h=>?_,fun h _=>?_,?_⟩
      ·have h:it.fn=1:=h;rw[if_pos h]at hx;subst hx;rfl
      ·have h:2<=it.fn:=h;rw[if_neg (by omega)]at hx;exact hx
      ·by_cases h:it.fn=1
       ·rw[if_pos h]at hx;subst hx;exact⟨by simp,trivial⟩
       ·rw[if_neg h]at hx;exact Be _ hx.formed) (fun y hy=>by
     rcases List.mem_append.1 hy with hy|hy
     ·exact h2 y hy
     ·rw[List.mem_singleton]at hy;subst hy;exact Pl _)
    simp only[List.length_append,List.length_cons,List.length_nil]at this ⊢;exact⟨this.1,this.2.1,by omega,by omega⟩
   ·rw[if_neg hf];have:=Gx (g:=g) l xs ag (out++[Xp.col (placeY g x.n)]) (if x.op≠1\/placeY g x.n<0 then firstE e 1 else e) hi h1 (fun y hy=>by
     rcases List.mem_append.1 hy with hy|hy
     ·exact h2 y hy
     ·rw[List.mem_singleton]at hy;subst hy;exact Pl _)
    simp only[List.length_append,List.length_cons,List.length_nil]at this ⊢;exact⟨this.1,this.2.1,by omega,by omega⟩
theorem J3 {width:Int}:∀(l:List Srt) (r:List Od) (e:Int),(ordersY width l r e).2=0->e=0
 | [],r,e,h=>by unfold ordersY at h;exact h
 | s::l,r,e,h=>by
  unfold ordersY at h;have h1:=J3 l _ _ h;split at h1
  ·exact(firstE_bad h1).elim
  ·exact h1
theorem Ia {width:Int}:∀(l:List Srt) (r:List Od) (e:Int),(ordersY width l r e).1.length=r.length+l.length
 | [],r,e=>by unfold ordersY;simp
 | s::l,r,e=>by
  unfold ordersY;rw[Ia l];simp only[List.length_append,List.length_cons,List.length_nil];omega
theorem D0:Xp.zero.isZero=true:=rfl
theorem D5 {sc:List Tbl} {x:Sel} {items:List Xp} {q:Qy} {e:Int} (h:(shapeY sc x items q e).2=0):e=0:=J3 _ _ _ h
theorem Hw {db sc:List Tbl} (hdb:∀t∈db,t.cols.length<=20) {x:Sel} {items:List Xp} {q:Qy} {e:Int} {m:Nat} (hq:QG db m q) (hm:m+4<=1000) (hi:∀y∈items,XpFine y) (hil:items.length<=1000) (hsl:x.sort.length<=1000):QG db (m+4) (shapeY sc x items q e).1:=by
 unfold shapeY;simp only;have a1:QG db (m+1) (if 0<items.length then Qy.mk 3 [] [q] Xp.zero items [] [] [] 0 else q):=by
  split
  ·exact hq.over hdb (by omega) (by unfold nodeQ;simp[D0];omega) (fun h=>by rcases h with h|h<;>cases h) hi (fun a ha=>by cases ha) (fun a ha=>by cases ha)
  ·exact hq.mono (by omega)
 generalize (if 0<items.length then Qy.mk 3 [] [q] Xp.zero items [] [] [] 0 else q)=q1 at a1 ⊢;have a2:QG db (m+1+1) (if x.distinct=true then Qy.mk 8 [] [q1] Xp.zero [] [] [] [] 0 else q1):=by
  split
  ·exact a1.over hdb (by omega) (by unfold nodeQ;simp[D0]) (fun h=>by rcases h with h|h<;>cases h) (fun a ha=>by cases ha) (fun a ha=>by cases ha) (fun a ha=>by cases ha)
  ·exact a1.mono (by omega)
 generalize (if x.distinct=true then Qy.mk 8 [] [q1] Xp.zero [] [] [] [] 0 else q1)=q2 at a2 ⊢;have hol:=Ia (width:=if 0<items.length then(items.length:Int)else((flatC sc).length:Int)) x.sort [] e;simp only[List.length_nil]at hol;generalize ordersY (if 0<items.length then(items.length:Int)else((flatC sc).length:Int)) x.sort [] e=o at hol ⊢;have a3:QG db (m+1+1+1) (if 0<x.sort.length then Qy.mk 6 [] [q2] Xp.zero [] [] [] o.1 0 else q2):=by
  split
  ·exact a2.over hdb (by omega) (by unfold nodeQ;simp[D0];omega) (fun h=>by rcases h with h|h<;>cases h) (fun a ha=>by cases ha) (fun a ha=>by cases ha) (fun a ha=>by cases ha)
  ·exact a2.mono (by omega)
 generalize (if 0<x.sort.length then Qy.mk 6 [] [q2] Xp.zero [] [] [] o.1 0 else q2)=q3 at a3 ⊢;split
 ·exact(a3.over hdb (by omega) (by unfold nodeQ;simp[D0]) (fun h=>by rcases h with h|h<;>cases h) (fun a ha=>by cases ha) (fun a ha=>by cases ha) (fun a ha=>by cases ha)).mono (by omega)
 ·exact a3.mono (by omega)
theorem shapeY_cols {db sc:List Tbl} {x:Sel} {items:List Xp} {q:Qy} {e:Int} (h:(schemaY db (shapeY sc x items q e).1).2=0):
 (schemaY db q).2=0/\(schemaY db (shapeY sc x items q e).1).1.length=if 0<items.length then items.length else(schemaY db q).1.length:=by
 unfold shapeY at h ⊢
 simp only at h ⊢
 generalize (ordersY (if 0<items.length then(items.length:Int)else((flatC sc).length:Int)) x.sort [] e).1=o at h ⊢
 have k1:(schemaY db (if 0<items.length then Qy.mk 3 [] [q] Xp.zero items [] [] [] 0 else q)).2=0->(schemaY db q).2=0/\(schemaY db (if 0<items.length then Qy.mk 3 [] [q] Xp.zero items [] [] [] 0 else q)).1.length=if 0<items.length then items.length else(schemaY db q).1.length:=by
  intro h;split at h
  ·rename_i hi;rw[if_pos hi,if_pos hi];obtain⟨h1,h2⟩:=Lo h;refine⟨h1,?_⟩;rw[h2]at h ⊢;exact(Gc checkX _ items).2 h
  ·rename_i hi;rw[if_neg hi,if_neg hi];exact⟨h,rfl⟩
 generalize (if 0<items.length then Qy.mk 3 [] [q] Xp.zero items [] [] [] 0 else q)=q1 at k1 h ⊢
 have k2:(schemaY db (if x.distinct=true then Qy.mk 8 [] [q1] Xp.zero [] [] [] [] 0 else q1)).2=0->(schemaY db q1).2=0/\(schemaY db (if x.distinct=true then Qy.mk 8 [] [q1] Xp.zero [] [] [] [] 0 else q1)).1=(schemaY db q1).1:=by
  intro h;split at h
  ·rename_i hi;rw[if_pos hi];exact schY_keep (.inr (.inr (.inr rfl))) h
  ·rename_i hi;rw[if_neg hi];exact⟨h,rfl⟩
 generalize (if x.distinct=true then Qy.mk 8 [] [q1] Xp.zero [] [] [] [] 0 else q1)=q2 at k2 h ⊢
 have k3:(schemaY db (if 0<x.sort.length then Qy.mk 6 [] [q2] Xp.zero [] [] [] o 0 else q2)).2=0->(schemaY db q2).2=0/\(schemaY db (if 0<x.sort.length then Qy.mk 6 [] [q2] Xp.zero [] [] [] o 0 else q2)).1=(schemaY db q2).1:=by
  intro h;split at h
  ·rename_i hi;rw[if_pos hi];exact schY_keep (.inr (.inl rfl)) h
  ·rename_i hi;rw[if_neg hi];exact⟨h,rfl⟩
 generalize (if 0<x.sort.length then Qy.mk 6 [] [q2] Xp.zero [] [] [] o 0 else q2)=q3 at k3 h ⊢
 have k4:(schemaY db q3).2=0/\(schemaY db (if 0<=x.limit then Qy.mk 7 [] [q3] Xp.zero [] [] [] [] x.limit else q3)).1=(schemaY db q3).1:=by
  split at h
  ·rename_i hi;rw[if_pos hi];exact schY_keep (.inr (.inr (.inl rfl))) h
  ·rename_i hi;rw[if_neg hi];exact⟨h,rfl⟩
 obtain⟨a4,b4⟩:=k4
 obtain⟨a3,b3⟩:=k3 a4
 obtain⟨a2,b2⟩:=k2 a3
 obtain⟨a1,b1⟩:=k1 a2
 exact⟨a1,by rw[b4,b3,b2,b1]⟩
structure SelOk (x:Sel):Prop where
 items:x.items.length<=16/\∀it∈x.items,it.picked=true
 from_:1<=x.from_.length/\x.from_.length<=4
 on:x.on.length+1=x.from_.length/\∀e∈x.on,e.good=true
 wh:condR x.where_=true
 group:x.group.length<=16/\∀e∈x.group,e.op=1/\e.good=true
 sort:x.sort.length<=16
theorem Hr {x:Sel} (h:x.chosen=true):SelOk x:=by
 unfold Sel.chosen allR at h;simp only[Bool.and_eq_true,decide_eq_true_eq,List.all_eq_true]at h;obtain⟨⟨⟨⟨⟨⟨⟨h1,h2⟩,h3⟩,h4⟩,h5⟩,h6⟩,h7⟩,h8⟩:=h;refine⟨⟨by omega,h1.2⟩,⟨by omega,by omega⟩,⟨by omega,h3.2⟩,h4,⟨by omega,fun e he=>?_⟩,by omega⟩;have:=h5.2 e he;unfold groupOk at this;simpa using this
theorem Cu {db sc:List Tbl} (hdb:∀t∈db,t.cols.length<=20) {x:Sel} (hx:SelOk x) (hw:x.Wf) (h:(boundY sc x).2=0):QG db 20 (boundY sc x).1:=by
 have hf0:=hx.from_;have ho0:=hx.on;unfold boundY at h ⊢;simp only at h ⊢;generalize hj:joinsY sc 0 x.on (x.from_.drop 1) (Qy.scan (x.from_.headD [])) 0=j at h ⊢;generalize hf:whereY sc x.where_ j.1 j.2=f at h ⊢;generalize hg:groupY sc x.group [] f.2=g at h ⊢;generalize hi:itemsY sc x.items [] g.2=it at h ⊢;have hgl:=Gr (sc:=sc) x.group [] f.2;rw[hg]at hgl;have base:it.2=0->QG db 8 f.1/\∃xs,it.1=xs/\ItemsFine x.items xs:=by
  intro h0;have g0:g.2=0:=by rw[<- hi]at h0;exact Ea _ _ _ h0
  have f0:f.2=0:=by rw[<- hg]at g0;exact Fv _ _ _ g0
  have j0:j.2=0:=by rw[<- hf]at f0;exact Ld f0
  have a1:QG db (1+2 * x.on.length) j.1:=by
   rw[<- hj]at j0 ⊢;exact Ii hdb _ _ _ _ _ 1 (fun y hy=>⟨hx.on.2 y hy,hw.on y hy⟩) (QG.scan db _) (by omega) j0
  have a2:QG db (1+2 * x.on.length+1) f.1:=by
   rw[<- hf]at f0 ⊢;exact Np hdb hx.wh hw.where_ a1 (by omega) f0
  refine⟨a2.mono (by omega),?_⟩;rw[<- hi]at h0 ⊢;obtain⟨xs,h1,h2⟩:=Im x.items [] g.2 (fun y hy=>⟨hx.items.2 y hy,hw.items y hy⟩) h0;exact⟨xs,by simpa using h1,h2⟩
 have hi16:=hx.items.1;have hg16:=hx.group.1;have hs16:=hx.sort;by_cases hgr:groupedY x=true
 ·rw[if_pos hgr]at h ⊢;have e1:=Fk _ _ _ _ _ (D5 h);have e2:it.2=0:=by
   split at e1
   ·exact(firstE_bad e1).elim
   ·exact e1
  obtain⟨a1,xs,hxs,a2⟩:=base e2;rw[hxs]at h ⊢;have a3:=Gx (g:=g.1) x.items xs [] [] (if xs.length=0 then firstE it.2 1 else it.2) a2 (fun a ha=>by cases ha) (fun a ha=>by cases ha);simp only[List.length_nil]at a3 hgl;refine(Hw hdb (m:=9) ?_ (by omega) a3.2.1 (by omega) (by omega)).mono (by omega);refine a1.over hdb (by omega) ?_ (fun h=>by rcases h with h|h<;>cases h) (fun a ha=>by cases ha) (fun a ha h2 h4=>(a3.1 a ha).2.1 h2 h4) (fun a ha=>(a3.1 a ha).2.2);unfold nodeQ;simp only[D0,Bool.and_eq_true,Bool.or_eq_true,decide_eq_true_eq,List.all_eq_true,List.length_nil];refine⟨⟨⟨⟨⟨⟨⟨⟨⟨⟨by decide,by decide⟩,.inr trivial⟩,.inr trivial⟩,.inr trivial⟩,.inl trivial⟩,.inr trivial⟩,.inr trivial⟩,rfl⟩,by omega⟩,fun a ha=>?_⟩;by_cases h1:a.fn=1
  ·exact .inr ((a3.1 a ha).1 h1)
  ·exact .inl h1
 ·rw[if_neg hgr]at h ⊢;obtain⟨a1,xs,hxs,a2⟩:=base (D5 h);rw[hxs]at h ⊢;have hall:∀it∈x.items,it.fn=0:=by
   intro it hit;unfold groupedY at hgr;simp only[Bool.or_eq_true,decide_eq_true_eq,List.any_eq_true,not_or,not_exists,not_and]at hgr;have:=hgr.2 it hit;omega
  have hxf:∀y∈xs,XpFine y:=by
   have key:∀(l:List Pk) (xs:List Xp),ItemsFine l xs->(∀it∈l,it.fn=0)->∀y∈xs,XpFine y:=by
    intro l xs h
    induction h with
    | nil=>intro _ y hy;cases hy
    | cons h1 _ ih=>
     intro h2 y hy;rcases List.mem_cons.1 hy with rfl|hy
     ·unfold ItemFine at h1;rw[if_neg (by have:=h2 _ List.mem_cons_self;omega)]at h1;exact h1
     ·exact ih (fun it hit=>h2 it (by simp[hit])) y hy
   exact key _ _ a2 hall
  have:=a2.len;exact(Hw hdb (m:=8) a1 (by omega) hxf (by omega) (by omega)).mono (by omega)
theorem Pp {db sc:List Tbl} {x:Sel} (hx:SelOk x) (h:(boundY sc x).2=0) (hs:(schemaY db (boundY sc x).1).2=0):
 (schemaY db (boundY sc x).1).1.length=if 0<x.items.length then x.items.length else colsOf db x.from_:=by
 have hf0:=hx.from_
 have ho0:=hx.on
 unfold boundY at h hs ⊢
 simp only at h hs ⊢
 generalize hj:joinsY sc 0 x.on (x.from_.drop 1) (Qy.scan (x.from_.headD [])) 0=j at h hs ⊢
 generalize hf:whereY sc x.where_ j.1 j.2=f at h hs ⊢
 generalize hg:groupY sc x.group [] f.2=g at h hs ⊢
 have hil:=Ke (sc:=sc) x.items [] g.2
 generalize hi:itemsY sc x.items [] g.2=it at h hs hil ⊢
 simp only[List.length_nil,Nat.zero_add]at hil
 have cols:(schemaY db f.1).2=0->(schemaY db f.1).1.length=colsOf db x.from_:=by
  intro h;rw[<- hf]at h ⊢;obtain⟨h1,h2⟩:=whereY_cols h;rw[h2];rw[<- hj]at h1 ⊢;obtain⟨h3,h4⟩:=Ij _ _ _ _ _ (by rw[List.length_drop];omega) h1;rw[h4,Lp h3]
  cases hfr:x.from_ with
  | nil=>rw[hfr]at hf0;simp at hf0
  | cons n l=>rfl
 have alen:∀(g:List Int) (l:List Pk) (xs:List Xp) (ag:List Ag) (out:List Xp) (e:Int),xs.length=l.length->(aggsY g l xs ag out e).1.2.length=out.length+l.length:=by
  intro g l
  induction l with
  | nil=>intro xs ag out e _;unfold aggsY;simp
  | cons a l ih=>
   intro xs ag out e hl
   cases xs with
   | nil=>simp at hl
   | cons y ys=>
    unfold aggsY;have hl:ys.length=l.length:=by simpa using hl
    split
    ·rw[ih _ _ _ _ hl];simp only[List.length_append,List.length_cons,List.length_nil];omega
    ·rw[ih _ _ _ _ hl];simp only[List.length_append,List.length_cons,List.length_nil];omega
 by_cases hgr:groupedY x=true
 ·rw[if_pos hgr]at h hs ⊢;have e1:=Fk _ _ _ _ _ (D5 h);have e2:¬it.1.length=0:=by
   intro h0;rw[if_pos h0]at e1;exact firstE_bad e1
  rw[(shapeY_cols hs).2];have:=alen g.1 x.items it.1 [] [] (if it.1.length=0 then firstE it.2 1 else it.2) hil;simp only[List.length_nil,Nat.zero_add]at this;rw[this,if_pos (by omega),if_pos (by omega)]
 ·rw[if_neg hgr]at h hs ⊢;obtain⟨h1,h2⟩:=shapeY_cols hs;rw[h2,hil];split
  ·rfl
  ·exact cols h1
def partTok (p:Bytes):Option (Int×Bytes×Int):=match tokenR p with
 | .ok (t,n)=>if n=p.length then some (t.kind,t.s,t.n)else none
 | .error _=>none
def IsTok (p:Bytes) (t:Tok):Prop:=partTok p=some (t.kind,t.s,t.n)
theorem Pa:((keywords++signs).all fun w=>decide (partTok w=some (if keywords.contains w then 1 else 5,w,0)))=true:=by decide+kernel
theorem Vk {w:Bytes} (h:(keywords++signs).contains w=true):partTok w=some (if keywords.contains w then 1 else 5,w,0):=by
 have:=List.all_eq_true.1 Pa w (by simpa using h);simpa using this
theorem Gb {α:Type} {p:α->Bool}:∀{l:List α},(l.takeWhile p).length=l.length->∀c∈l,p c=true
 | [],_,c,hc=>by cases hc
 | a::l,h,c,hc=>by
  by_cases ha:p a=true
  ·rw[List.takeWhile_cons_of_pos ha,List.length_cons,List.length_cons]at h;rcases List.mem_cons.1 hc with rfl|hc
   ·exact ha
   ·exact Gb (by omega) c hc
  ·rw[List.takeWhile_cons_of_neg ha]at h;simp at h
theorem E6 {α:Type} {p:α->Bool}:∀{l:List α},(∀c∈l,p c=true)->l.takeWhile p=l
 | [],_=>rfl
 | a::l,h=>by rw[List.takeWhile_cons_of_pos (h a (by simp)),E6 (fun c hc=>h c (by simp[hc]))]
theorem Nx {s g:Bytes} (h:signOf s=some g):g∈signs/\g.isPrefixOf s=true:=⟨List.mem_of_find?_eq_some h,by simpa using List.find?_some h⟩
end Go.Proofs.YtjmmbebkbkgefaaGreatDoor
