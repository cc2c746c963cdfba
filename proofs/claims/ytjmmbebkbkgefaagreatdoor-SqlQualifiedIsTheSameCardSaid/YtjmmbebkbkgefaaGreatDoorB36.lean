/- Part 36; the last part says what is proved. No condition. -/
import Derived.Test.YtjmmbebkbkgefaaGreatDoorB35
set_option linter.unusedVariables false
set_option linter.unusedSimpArgs false
namespace Go.Proofs.YtjmmbebkbkgefaaGreatDoor
open Go.RowKit Go.Sort Go.Proofs.Tryz
def SanityAt:Prop:=∀(B:Nat) (W:World),Env B W->Calls prog 6 #[] W (fun e w'=>e=.returned (.bool true)/\Below W.heap.size W w')
def selE (x:Sel):Stm:={Stm.zero with kind:=9,select:=x}
theorem Dp (x:Sel):(selE x).formed=x.chosen:=by
 have h:(selE x).formed=(x.chosen&&Stm.unused {selE x with select:=Sel.zero}):=rfl;rw[h];have h2:Stm.unused {selE x with select:=Sel.zero}=true:=by
  show Stm.unused {Stm.zero with kind:=9}=true;decide+kernel
 rw[h2,Bool.and_true]
theorem Sj {Q:Nat->Prop} {w:World} {x:Sel} {ia fa oa wa ga sa:Option Addr} {ic fc oc wc gc sn:Nat} (h:RSelQ Q w x (.agg #[.bool x.distinct,.slice ia x.items.length ic,.slice fa x.from_.length fc,.slice oa x.on.length oc,.int .i64 x.where_.op,.string ⟨x.where_.table.toArray⟩,.string ⟨x.where_.name.toArray⟩,.int .i64 x.where_.val.k,.int .i64 x.where_.val.n,.string x.where_.val.s,.slice wa x.where_.args.length wc,.slice ga x.group.length gc,.slice sa x.sort.length sn,.int .i64 x.limit])):
 StmIn Q w {k:=9,xd:=x.distinct,xi:=(ia,x.items.length,ic),xf:=(fa,x.from_.length,fc),xo:=(oa,x.on.length,oc),yo:=x.where_.op,yt:=x.where_.table,yn:=x.where_.name,yv:=x.where_.val,ya:=(wa,x.where_.args.length,wc),xg:=(ga,x.group.length,gc),xs:=(sa,x.sort.length,sn),xl:=x.limit} (selE x):=
 {k:=rfl,tb:=rfl,nm:=rfl,sch:=⟨none,0,none,0,none,0,rfl,Aj,Aj⟩,col:=rfl,ns:=Aj,un:=rfl,rs:=Aj,es:=Aj,wh:=⟨rfl,rfl,rfl,rfl,M9 Aj⟩,sel:=h,md:=rfl}
theorem Md {db:List Tbl} (hdb:∀t∈db,t.cols.length<=20) {x:Sel} (hx:SelOk x) (hw:x.Wf) (h:(bindY schemaQ db x).2=0):
 QG db 20 (bindY schemaQ db x).1/\(schemaQ db (bindY schemaQ db x).1).2=0/\(schemaQ db (bindY schemaQ db x).1).1.length=if 0<x.items.length then x.items.length else colsOf db x.from_:=by
 rw[Ku]at h ⊢
 unfold bdA at h ⊢
 cases hs:scopeY db [] x.from_ with
 | error e=>
  rw[hs]at h;exact absurd h (Hn hs)
 | ok sc=>
  rw[hs]at h;simp only at h ⊢;unfold bdB at h ⊢;by_cases hb:(boundY sc x).2=0
  ·rw[if_pos hb]at h ⊢;by_cases hq:(schemaQ db (boundY sc x).1).2=0
   ·rw[if_pos hq];have hg:=Cu hdb hx hw hb;refine⟨hg,hq,?_⟩;have hn:=hg.nodes;have e:schemaQ db (boundY sc x).1=schemaY db (boundY sc x).1:=if_neg (by omega);rw[e]at hq ⊢;exact Pp hx hb hq
   ·rw[if_neg hq]at h;exact absurd h hq
  ·rw[if_neg hb,if_neg hb]at h;exact absurd h hb
end Go.Proofs.YtjmmbebkbkgefaaGreatDoor
