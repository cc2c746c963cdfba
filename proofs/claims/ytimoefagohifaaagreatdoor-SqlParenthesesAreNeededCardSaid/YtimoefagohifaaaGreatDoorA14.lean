/- Laws that the last part needs. No condition. -/
import Derived.Test.YtimoefagohifaaaGreatDoorA13
set_option maxHeartbeats 4000000
set_option maxRecDepth 100000
namespace Go.Proofs.YtimoefagohifaaaGreatDoor
open Go.RowKit Go.Sort Tryz
def Says (v:Value) (w:World) (e:Ending) (w':World):Prop:=e=.returned v/\Below w.heap.size w w'
def idxFrom {α:Type} (p:α->Bool):Nat->List α->Int
 | _,[]=>-1
 | k,a::l=>if p a then(k:Int)else idxFrom p (k+1) l
theorem Dl {α:Type} (p:α->Bool):∀(l:List α) (k:Nat),decide (0<=idxFrom p k l)=l.any p
 | [],k=>rfl
 | a::l,k=>by
  rw[idxFrom,List.any_cons];by_cases h:p a=true
  ·simp[h]
  ·have h':p a=false:=by simpa using h
   rw[h',aam,<- Dl p l (k+1)];simp
theorem Fv {α:Type} (p:α->Bool) (l:List α):(!(l.any fun a=>!p a))=l.all p:=by
 induction l with
 | nil=>rfl
 | cons a l ih=>simp only[List.any_cons,zi,Bool.not_or,Bool.not_not,ih]
theorem kj {α:Type} (l:List α) (least most:Int) (p:α->Bool):allR l least most p=if least<=(l.length:Int)then(if(l.length:Int)<=most then l.all p else false)else false:=by
 unfold allR;by_cases h:least<=(l.length:Int)<;>by_cases h2:(l.length:Int)<=most<;>simp[h,h2]
theorem LIn.get {α:Type} {E:ElRep α} {Q:Nat->Prop} {w:World}:∀{l:List α} {acs:List Value} {i:Nat} {a:α},LIn E Q w l acs->l[i]?=some a->∃c,E.In Q w a c/\∀j u,c[j]?=some u->acs[i * E.k+j]?=some u
 | [],acs,i,a,_,hi=>by cases hi
 | d::l,acs,0,a,h,hi=>by exact Zo
 | d::l,acs,i+1,a,h,hi=>by
  obtain⟨c1,c2,rfl,h1,h2⟩:=h;simp only[xq]at hi;obtain⟨c,hc,hj⟩:=LIn.get h2 hi;refine⟨c,hc,fun j u hu=>?_⟩;have:=E.len h1;rw[aa2 (by rw[Nat.succ_mul];omega),show(i+1) * E.k+j - c1.length=i * E.k+j by rw[Nat.succ_mul];omega];exact hj j u hu
theorem RSl.kept {α:Type} {E:ElRep α} (hk:0<E.k) {Q:Nat->Prop} {w w':World} {v:Value} {l:List α} (h:RSl E Q w v l) (hb:Below w.heap.size w w'):RSl E Q w' v l:=rSl_move hk (fun b hlt k=>⟨k,hb.block b hlt⟩) h
theorem RSl.at {α:Type} {E:ElRep α} {Q:Nat->Prop} {w:World} {v:Value} {l:List α} (h:RSl E Q w v l) {k:Nat} {a:α} (hk:l[k]?=some a):∃b o cap c,v=.slice (some ⟨b,o,none⟩) l.length cap/\E.In Q w a c/\∀j u,c[j]?=some u->w.cell? ⟨b,o+k * E.k+j,none⟩=some u:=by
 obtain⟨acs,⟨ad,cap,rfl,hc,h1⟩,h2⟩:=h;obtain⟨b,o,rfl,_,h3⟩:=h1 (Nat.lt_of_le_of_lt (yu _) (uu.1 hk).1);obtain⟨c,hc,hj⟩:=LIn.get h2 hk;exact⟨b,o,cap,c,rfl,hc,fun j u hu=>by rw[zx];exact h3 _ _ (hj j u hu)⟩
theorem RSl.slice {α:Type} {E:ElRep α} {Q:Nat->Prop} {w:World} {v:Value} {l:List α} (h:RSl E Q w v l):∃a c,v=.slice a l.length c:=by
 obtain⟨acs,⟨ad,cap,e,_⟩,_⟩:=h;exact⟨ad,cap,e⟩
theorem e8 {cs:List Value} (h:cs.length=1):∃a,cs=[a]:=by
 rcases cs with _|⟨a,_|⟨z,r⟩⟩<;>simp at h
 exact⟨a,rfl⟩
theorem ez {cs:List Value} (h:cs.length=2):∃a b,cs=[a,b]:=by
 rcases cs with _|⟨a,_|⟨b,_|⟨z,r⟩⟩⟩<;>simp at h
 exact⟨a,b,rfl⟩
theorem ey {cs:List Value} (h:cs.length=3):∃a b c,cs=[a,b,c]:=by
 rcases cs with _|⟨a,_|⟨b,_|⟨c,_|⟨z,r⟩⟩⟩⟩<;>simp at h
 exact⟨a,b,c,rfl⟩
theorem ew {cs:List Value} (h:cs.length=5):∃a b c d e,cs=[a,b,c,d,e]:=by
 rcases cs with _|⟨a,_|⟨b,_|⟨c,_|⟨d,_|⟨e,_|⟨z,r⟩⟩⟩⟩⟩⟩<;>simp at h
 exact⟨a,b,c,d,e,rfl⟩
theorem eu {cs:List Value} (h:cs.length=7):∃a b c d e f g,cs=[a,b,c,d,e,f,g]:=by
 rcases cs with _|⟨a,_|⟨b,_|⟨c,_|⟨d,_|⟨e,_|⟨f,_|⟨g,_|⟨z,r⟩⟩⟩⟩⟩⟩⟩⟩<;>simp at h
 exact⟨a,b,c,d,e,f,g,rfl⟩
theorem et {cs:List Value} (h:cs.length=8):∃a b c d e f g i,cs=[a,b,c,d,e,f,g,i]:=by
 rcases cs with _|⟨a,_|⟨b,_|⟨c,_|⟨d,_|⟨e,_|⟨f,_|⟨g,_|⟨i,_|⟨z,r⟩⟩⟩⟩⟩⟩⟩⟩⟩<;>simp at h
 exact⟨a,b,c,d,e,f,g,i,rfl⟩
def OnEls {α:Type} (E:ElRep α) (f:Nat) (R:(α->Bool)->List α->Value):Prop:=∀(g qb:Nat) (Q:Nat->Prop) (p:α->Bool) (l:List α) (v:Value) (w:World),(∀args w,(callFunc g args).run prog w=.ok (.enter g args) w)->RSl E Q w v l->l.length<=4611686018427387904 ->
 Hid (∀W a cs,Below w.heap.size w W->a∈l->E.In Q W a cs->Calls prog g #[E.val cs,.pointer (some ⟨qb,0,none⟩)] W (Says (.bool (p a)) W))->Calls prog f #[v,.func (.func g) #[] #[.pointer (some ⟨qb,0,none⟩)]] w (Says (R p l) w)
def OnEls0 {α:Type} (E:ElRep α) (f:Nat) (R:(α->Bool)->List α->Value):Prop:=∀(g:Nat) (Q:Nat->Prop) (p:α->Bool) (l:List α) (v:Value) (w:World),(∀args w,(callFunc g args).run prog w=.ok (.enter g args) w)->RSl E Q w v l->l.length<=4611686018427387904 ->
 Hid (∀W a cs,Below w.heap.size w W->a∈l->E.In Q W a cs->Calls prog g #[E.val cs] W (Says (.bool (p a)) W))->Calls prog f #[v,.func (.func g) #[] #[]] w (Says (R p l) w)
def NotEl {α:Type} (E:ElRep α) (f:Nat):Prop:=∀(g cb:Nat) (Q:Nat->Prop) (a:α) (cs:List Value) (b:Bool) (w:World),(∀args w,(callFunc g args).run prog w=.ok (.enter g args) w)->w.cell? ⟨cb,0,none⟩=some (.func (.func g) #[] #[])->E.In Q w a cs ->
 Hid (∀W,Below w.heap.size w W->E.In Q W a cs->Calls prog g #[E.val cs] W (Says (.bool b) W))->Calls prog f #[E.val cs,.pointer (O cb)] w (Says (.bool (!b)) w)
def NotEl1 {α:Type} (E:ElRep α) (f:Nat):Prop:=∀(g qb cb:Nat) (Q:Nat->Prop) (a:α) (cs:List Value) (b:Bool) (w:World),(∀args w,(callFunc g args).run prog w=.ok (.enter g args) w)->w.cell? ⟨cb,0,none⟩=some (.func (.func g) #[] #[.pointer (O qb)])->E.In Q w a cs ->
 Hid (∀W,Below w.heap.size w W->E.In Q W a cs->Calls prog g #[E.val cs,.pointer (O qb)] W (Says (.bool b) W))->Calls prog f #[E.val cs,.pointer (O cb)] w (Says (.bool (!b)) w)
def AllEls {α:Type} (E:ElRep α) (f:Nat):Prop:=∀(g:Nat) (Q:Nat->Prop) (p:α->Bool) (least most:Int) (l:List α) (v:Value) (w:World),(∀args w,(callFunc g args).run prog w=.ok (.enter g args) w)->RSl E Q w v l->most<=4611686018427387904 ->
 Hid (∀W a cs,Below w.heap.size w W->a∈l->E.In Q W a cs->Calls prog g #[E.val cs] W (Says (.bool (p a)) W))->Calls prog f #[v,U least,U most,.func (.func g) #[] #[]] w (Says (.bool (allR l least most p)) w)
def AllEls1 {α:Type} (E:ElRep α) (f:Nat):Prop:=∀(g qb:Nat) (Q:Nat->Prop) (p:α->Bool) (least most:Int) (l:List α) (v:Value) (w:World),(∀args w,(callFunc g args).run prog w=.ok (.enter g args) w)->RSl E Q w v l->most<=4611686018427387904 ->
 Hid (∀W a cs,Below w.heap.size w W->a∈l->E.In Q W a cs->Calls prog g #[E.val cs,.pointer (O qb)] W (Says (.bool (p a)) W))->Calls prog f #[v,U least,U most,.func (.func g) #[] #[.pointer (O qb)]] w (Says (.bool (allR l least most p)) w)
theorem al {P:Prop} (h:P:=by
 first|(clear ONE;intro g qb Q p l v w hfn hv hl HG)|intro g Q p l v w hfn hv hl HG
 obtain⟨a0,cap0,rfl⟩:=hv.slice;have HV:=tm hv;clear hv;go_enter F,N;go_wp2_with fail;go_loopw [5,8] (fun _ i wr=>∃k:Nat,k<=l.length/\i=U k/\Hid (idxFrom p 0 l=idxFrom p k (l.drop k))/\Hid (Below w.heap.size w wr)) (fun _ i _=>l.length - (intOf i).toNat)
 case atStart=>exact⟨0,by omega,rfl,rfl,uj _ _⟩
 case round=>
  obtain⟨k,hk,rfl,HK,HB⟩:=hrel;by_cases hlt:k<l.length
  ·obtain⟨a,hx⟩:∃x,l[k]?=some x:=⟨l[k],by simp[hlt]⟩;obtain⟨b,o,cap,cs,hbo,hin,hat⟩:=((HV.out.kept acy HB.out)).at hx;injection hbo with e1 _ e2;subst e1;subst e2;have C:=tm (HG.out wr a cs HB.out (uq hx) hin);have HST:Hid (idxFrom p 0 l=if p a then(k:Int)else idxFrom p (k+1) (l.drop (k+1))):=HK.out.trans (by
    obtain⟨h1,rfl⟩:=uu.1 hx;rw[ww h1,idxFrom])
   have hcl:=ElRep.len _ hin;first
    | obtain⟨c0,rfl⟩:=e8 hcl
    | obtain⟨c0,c1,rfl⟩:=ez hcl
    | obtain⟨c0,c1,c2,rfl⟩:=ey hcl
    | obtain⟨c0,c1,c2,c3,c4,rfl⟩:=ew hcl
    | obtain⟨c0,c1,c2,c3,c4,c5,c6,rfl⟩:=eu hcl
    | obtain⟨c0,c1,c2,c3,c4,c5,c6,c7,rfl⟩:=et hcl
   rw[EK]at hat;have x0:=hat 0 _ rfl;try(have x1:=hat 1 _ rfl)
   try(have x2:=hat 2 _ rfl)
   try(have x3:=hat 3 _ rfl)
   try(have x4:=hat 4 _ rfl)
   try(have x5:=hat 5 _ rfl)
   try(have x6:=hat 6 _ rfl)
   try(have x7:=hat 7 _ rfl)
   simp only[u0,aac]at x0;simp only[EV]at C;clear HK hx hat hcl hin;by_cases hn:p a=true
   ·have HR:Hid (idxFrom p 0 l=(k:Int)):=by show _=_;rw[HST.out,if_pos hn]
    rw[hn]at C;clear HST hn;go_wp2_with fail;refine tp C.out ?_;rintro e w1 ⟨rfl,hb⟩;have HB1:=tm (HB.out.step hb);clear hb;exact z120
   ·have HR:Hid (idxFrom p 0 l=idxFrom p (k+1) (l.drop (k+1))):=by show _=_;rw[HST.out,if_neg hn]
    have hd:p a=false:=by simpa using hn
    rw[hd]at C;clear HST hn hd;go_wp2_with fail;refine tp C.out ?_;rintro e w1 ⟨rfl,hb⟩;have HB1:=tm (HB.out.step hb);clear hb;exact z66
  ·obtain rfl:k=l.length:=acw;have HR:Hid (idxFrom p 0 l= -1):=by show _=_;rw[HK.out,aaj];rfl
   clear HK;go_wp2_with fail;go_returns;exact⟨by rw[HR.out];rfl,HB.out⟩):P:=h
theorem am {P:Prop} (h:P:=by
 first
  | (clear ONE;intro g qb Q p l v w hfn hv hl HG;have HC:=tm (HI g qb Q p l v w hfn hv hl HG))
  | (intro g Q p l v w hfn hv hl HG;have HC:=tm (HI g Q p l v w hfn hv hl HG))
 have HD:=tm (Dl p l 0);clear HG hv HI;go_enter F,N;go_wp2_with fail;refine tp HC.out ?_;rintro e w1 ⟨rfl,hb⟩;go_wp2_with fail;exact ue (v:=.bool (l.any p)) (by simp[results,RS,go_sem,<- HD.out]) rfl ⟨rfl,hb⟩):P:=h
theorem Gb {P:Prop} (h:P:=by
 first|(clear ONE;intro g qb cb Q a cs b w hfn hc hin HG)|intro g cb Q a cs b w hfn hc hin HG
 have HX:=tm (fun W (hW:Below w.heap.size w W)=>HG.out W hW (ElRep.move _ (fun c hlt k=>⟨k,hW.block c hlt⟩) hin));clear HG;have hcl:=ElRep.len _ hin;first
  | obtain⟨c0,rfl⟩:=e8 hcl
  | obtain⟨c0,c1,rfl⟩:=ez hcl
  | obtain⟨c0,c1,c2,rfl⟩:=ey hcl
  | obtain⟨c0,c1,c2,c3,c4,rfl⟩:=ew hcl
  | obtain⟨c0,c1,c2,c3,c4,c5,c6,rfl⟩:=eu hcl
  | obtain⟨c0,c1,c2,c3,c4,c5,c6,c7,rfl⟩:=et hcl
 simp only[EV]at HX ⊢;clear hcl hin;have y:=hc;first|(have y2:=KB c0 c1 hc)|(have y2:=KB c0 c1 c2 hc)|(have y2:=KB c0 c1 c2 c3 c4 hc)|(have y2:=KB c0 c1 c2 c3 c4 c5 c6 hc)|(have y2:=KB c0 c1 c2 c3 c4 c5 c6 c7 hc)|skip
 clear hc;go_enter F,N;go_wp2_with fail;refine tp (HX.out _ (by first|exact uj _ _|exact(uj _ _).alloc (tu _) _)) ?_;rintro e w1 ⟨rfl,hb⟩;go_wp2_with fail;exact ue (v:=.bool (!b)) (by simp[results,RS,go_sem]) rfl ⟨rfl,by first|exact hb|exact((uj _ _).alloc (tu _) _).step hb⟩):P:=h
theorem Gc {P:Prop} (h:P:=by
 first
  | (clear ONE;intro g qb Q p least most l v w hfn hv hm HG;have HC:=tm (fun(t:Nat) (hl:l.length<=4611686018427387904)=>HCON _ w.heap.size Q (fun a=>!p a) l v (w.alloc (.cells #[.func (.func g) #[] #[.pointer (O qb)]] t)) HENT (hv.kept acy ((uj _ _).alloc (tu _) _)) hl (fun W a cs hW ha hin=>HNOT g qb w.heap.size Q a cs (p a) W hfn (hW.cell_kept ai) hin (fun W' hW' hin'=>HG.out W' a cs ((((uj _ _).alloc (tu _) _).trans (hW.mono acx)).step hW') ha hin'))))
  | (intro g Q p least most l v w hfn hv hm HG;have HC:=tm (fun(t:Nat) (hl:l.length<=4611686018427387904)=>HCON _ w.heap.size Q (fun a=>!p a) l v (w.alloc (.cells #[.func (.func g) #[] #[]] t)) HENT (hv.kept acy ((uj _ _).alloc (tu _) _)) hl (fun W a cs hW ha hin=>HNOT g w.heap.size Q a cs (p a) W hfn (hW.cell_kept ai) hin (fun W' hW' hin'=>HG.out W' a cs ((((uj _ _).alloc (tu _) _).trans (hW.mono acx)).step hW') ha hin'))))
 have HE:=tm (kj l least most p);have HN:=tm (Fv p l);obtain⟨a0,cap,rfl⟩:=hv.slice;clear HG hv HCON HNOT HENT;go_enter F,N;by_cases h1:least<=(l.length:Int)
 ·by_cases h2:(l.length:Int)<=most
  ·have HR:Hid (allR l least most p=!(l.any fun a=>!p a)):=by show _=_;rw[HE.out,if_pos h1,if_pos h2,HN.out]
   clear HE HN;go_wp2_with fail;refine tp (HC.out _ acw) ?_;rintro e w1 ⟨rfl,hb⟩;have HB:=tm (((uj _ _).alloc (tu _) _).step hb);clear hb HC;generalize (l.any fun a=>!p a)=b at *;go_wp2_with fail;exact ue (v:=.bool (!b)) (by simp[results,RS,go_sem]) rfl ⟨by rw[HR.out],HB.out⟩
  ·have HR:Hid (allR l least most p=false):=by show _=_;rw[HE.out,if_pos h1,if_neg h2]
   clear HE HN HC;go_wp2_with fail;exact ue (v:=.bool false) (by simp[results,RS,go_sem]) rfl ⟨by rw[HR.out],(uj _ _).alloc (tu _) _⟩
 ·have HR:Hid (allR l least most p=false):=by show _=_;rw[HE.out,if_neg h1]
  clear HE HN HC;go_wp2_with fail;exact ue (v:=.bool false) (by simp[results,RS,go_sem]) rfl ⟨by rw[HR.out],(uj _ _).alloc (tu _) _⟩):P:=h
theorem Ty:OnEls strE 169 (fun p l=>U (idxFrom p 0 l)):=by
 have F:=func169;have N:=ntmps169;have EK:strE.k=1:=rfl;have EV:∀a:Value,strE.val [a]=a:=fun _=>rfl;exact qn
theorem J0:OnEls strE 102 (fun p l=>.bool (l.any p)):=by
 have F:=func102;have N:=ntmps102;have RS:=results102;have HI:=Ty;exact mx
theorem Yx:En 103:=enters_of func103 acz rfl
theorem Tf:NotEl strE 103:=by
 have F:=func103;have N:=ntmps103;have RS:=results103;have EV:∀a:Value,strE.val [a]=a:=fun _=>rfl;exact Gb
theorem I4:AllEls strE 40:=by
 have F:=func40;have N:=ntmps40;have RS:=results40;have HCON:=J0;have HNOT:=Tf;have HENT:=Yx;exact Gc
theorem Tw:OnEls rowE 176 (fun p l=>U (idxFrom p 0 l)):=by
 have F:=func176;have N:=ntmps176;have EK:rowE.k=1:=rfl;have EV:∀a:Value,rowE.val [a]=a:=fun _=>rfl;exact qn
theorem Jz:OnEls rowE 108 (fun p l=>.bool (l.any p)):=by
 have F:=func108;have N:=ntmps108;have RS:=results108;have HI:=Tw;exact mx
theorem Yv:En 109:=enters_of func109 acz rfl
theorem Te:NotEl rowE 109:=by
 have F:=func109;have N:=ntmps109;have RS:=results109;have EV:∀a:Value,rowE.val [a]=a:=fun _=>rfl;exact Gb
theorem Zb:AllEls rowE 45:=by
 have F:=func45;have N:=ntmps45;have RS:=results45;have HCON:=Jz;have HNOT:=Te;have HENT:=Yv;exact Gc
theorem Tv:OnEls valE 177 (fun p l=>U (idxFrom p 0 l)):=by
 have F:=func177;have N:=ntmps177;have EK:valE.k=3:=rfl;have EV:∀a b c:Value,valE.val [a,b,c]=.agg #[a,b,c]:=fun _ _ _=>rfl;exact qn
theorem Jy:OnEls valE 110 (fun p l=>.bool (l.any p)):=by
 have F:=func110;have N:=ntmps110;have RS:=results110;have HI:=Tv;exact mx
theorem Yu:En 111:=enters_of func111 acz rfl
theorem Td:NotEl valE 111:=by
 have F:=func111;have N:=ntmps111;have RS:=results111;have EV:∀a b c:Value,valE.val [a,b,c]=.agg #[a,b,c]:=fun _ _ _=>rfl;have KB:∀{w:World} {cb:Nat} {v:Value} (a b c:Value),w.cell? ⟨cb,0,none⟩=some v->(w.alloc (.cells #[a,b,c] 42)).cell? ⟨cb,0,none⟩=some v:=fun _ _ _ hc=>((uj _ _).alloc (tu _) _).cell_kept hc;exact Gb
theorem Za:AllEls valE 47:=by
 have F:=func47;have N:=ntmps47;have RS:=results47;have HCON:=Jy;have HNOT:=Td;have HENT:=Yu;exact Gc
theorem Tu:OnEls exE 178 (fun p l=>U (idxFrom p 0 l)):=by
 have F:=func178;have N:=ntmps178;have EK:exE.k=7:=rfl;have EV:∀a b c d e f g:Value,exE.val [a,b,c,d,e,f,g]=.agg #[a,b,c,d,e,f,g]:=fun _ _ _ _ _ _ _=>rfl;exact qn
theorem Jw:OnEls exE 113 (fun p l=>.bool (l.any p)):=by
 have F:=func113;have N:=ntmps113;have RS:=results113;have HI:=Tu;exact mx
theorem Yt:En 114:=enters_of func114 acz rfl
theorem Nz:OnEls0 exE 178 (fun p l=>U (idxFrom p 0 l)):=by
 have F:=func178;have N:=ntmps178;have EK:exE.k=7:=rfl;have EV:∀a b c d e f g:Value,exE.val [a,b,c,d,e,f,g]=.agg #[a,b,c,d,e,f,g]:=fun _ _ _ _ _ _ _=>rfl;exact al
theorem contains113_plain:OnEls0 exE 113 (fun p l=>.bool (l.any p)):=by
 have F:=func113;have N:=ntmps113;have RS:=results113;have HI:=Nz;exact am
theorem Tc:NotEl exE 114:=by
 have F:=func114;have N:=ntmps114;have RS:=results114;have EV:∀a b c d e f g:Value,exE.val [a,b,c,d,e,f,g]=.agg #[a,b,c,d,e,f,g]:=fun _ _ _ _ _ _ _=>rfl;have KB:∀{w:World} {cb:Nat} {v:Value} (a b c d e f g:Value),w.cell? ⟨cb,0,none⟩=some v->(w.alloc (.cells #[a,b,c,d,e,f,g] 44)).cell? ⟨cb,0,none⟩=some v:=fun _ _ _ _ _ _ _ hc=>((uj _ _).alloc (tu _) _).cell_kept hc;exact Gb
theorem I3:AllEls exE 49:=by
 have F:=func49;have N:=ntmps49;have RS:=results49;have HCON:=Jw;have HNOT:=Tc;have HENT:=Yt;exact Gc
theorem Ts:OnEls pkE 228 (fun p l=>U (idxFrom p 0 l)):=by
 have F:=func228;have N:=ntmps228;have EK:pkE.k=8:=rfl;have EV:∀a b c d e f g i:Value,pkE.val [a,b,c,d,e,f,g,i]=.agg #[a,b,c,d,e,f,g,i]:=fun _ _ _ _ _ _ _ _=>rfl;exact qn
theorem Jt:OnEls pkE 180 (fun p l=>.bool (l.any p)):=by
 have F:=func180;have N:=ntmps180;have RS:=results180;have HI:=Ts;exact mx
theorem Yf:En 181:=enters_of func181 acz rfl
theorem Sz:NotEl pkE 181:=by
 have F:=func181;have N:=ntmps181;have RS:=results181;have EV:∀a b c d e f g i:Value,pkE.val [a,b,c,d,e,f,g,i]=.agg #[a,b,c,d,e,f,g,i]:=fun _ _ _ _ _ _ _ _=>rfl;have KB:∀{w:World} {cb:Nat} {v:Value} (a b c d e f g i:Value),w.cell? ⟨cb,0,none⟩=some v->(w.alloc (.cells #[a,b,c,d,e,f,g,i] 132)).cell? ⟨cb,0,none⟩=some v:=fun _ _ _ _ _ _ _ _ hc=>((uj _ _).alloc (tu _) _).cell_kept hc;exact Gb
theorem Uw:AllEls pkE 117:=by
 have F:=func117;have N:=ntmps117;have RS:=results117;have HCON:=Jt;have HNOT:=Sz;have HENT:=Yf;exact Gc
theorem Tr:OnEls srtE 229 (fun p l=>U (idxFrom p 0 l)):=by
 have F:=func229;have N:=ntmps229;have EK:srtE.k=2:=rfl;have EV:∀a b:Value,srtE.val [a,b]=.agg #[a,b]:=fun _ _=>rfl;exact qn
theorem Js:OnEls srtE 182 (fun p l=>.bool (l.any p)):=by
 have F:=func182;have N:=ntmps182;have RS:=results182;have HI:=Tr;exact mx
theorem Ye:En 183:=enters_of func183 acz rfl
theorem Sy:NotEl srtE 183:=by
 have F:=func183;have N:=ntmps183;have RS:=results183;have EV:∀a b:Value,srtE.val [a,b]=.agg #[a,b]:=fun _ _=>rfl;have KB:∀{w:World} {cb:Nat} {v:Value} (a b:Value),w.cell? ⟨cb,0,none⟩=some v->(w.alloc (.cells #[a,b] 162)).cell? ⟨cb,0,none⟩=some v:=fun _ _ hc=>((uj _ _).alloc (tu _) _).cell_kept hc;exact Gb
theorem Uv:AllEls srtE 120:=by
 have F:=func120;have N:=ntmps120;have RS:=results120;have HCON:=Js;have HNOT:=Sy;have HENT:=Ye;exact Gc
theorem Tx:OnEls colE 174 (fun p l=>U (idxFrom p 0 l)):=by
 have F:=func174;have N:=ntmps174;have EK:colE.k=3:=rfl;have EV:∀a b c:Value,colE.val [a,b,c]=.agg #[a,b,c]:=fun _ _ _=>rfl;exact qn
theorem Jv:OnEls colE 170 (fun p l=>.bool (l.any p)):=by
 have F:=func170;have N:=ntmps170;have RS:=results170;have HI:=Tx;exact mx
theorem Yj:En 171:=enters_of func171 acz rfl
theorem Tb:NotEl colE 171:=by
 have F:=func171;have N:=ntmps171;have RS:=results171;have EV:∀a b c:Value,colE.val [a,b,c]=.agg #[a,b,c]:=fun _ _ _=>rfl;have KB:∀{w:World} {cb:Nat} {v:Value} (a b c:Value),w.cell? ⟨cb,0,none⟩=some v->(w.alloc (.cells #[a,b,c] 37)).cell? ⟨cb,0,none⟩=some v:=fun _ _ _ hc=>((uj _ _).alloc (tu _) _).cell_kept hc;exact Gb
theorem Uy:AllEls colE 104:=by
 have F:=func104;have N:=ntmps104;have RS:=results104;have HCON:=Jv;have HNOT:=Tb;have HENT:=Yj;exact Gc
theorem Tt:OnEls chkE 227 (fun p l=>U (idxFrom p 0 l)):=by
 have F:=func227;have N:=ntmps227;have EK:chkE.k=5:=rfl;have EV:∀a b c d e:Value,chkE.val [a,b,c,d,e]=.agg #[a,b,c,d,e]:=fun _ _ _ _ _=>rfl;exact qn
theorem Ju:OnEls chkE 172 (fun p l=>.bool (l.any p)):=by
 have F:=func172;have N:=ntmps172;have RS:=results172;have HI:=Tt;exact mx
theorem Yi:En 173:=enters_of func173 acz rfl
theorem Ta:NotEl1 chkE 173:=by
 have F:=func173;have N:=ntmps173;have RS:=results173;have EV:∀a b c d e:Value,chkE.val [a,b,c,d,e]=.agg #[a,b,c,d,e]:=fun _ _ _ _ _=>rfl;have KB:∀{w:World} {cb:Nat} {v:Value} (a b c d e:Value),w.cell? ⟨cb,0,none⟩=some v->(w.alloc (.cells #[a,b,c,d,e] 151)).cell? ⟨cb,0,none⟩=some v:=fun _ _ _ _ _ hc=>((uj _ _).alloc (tu _) _).cell_kept hc;have ONE:=trivial;exact Gb
theorem Ux:AllEls1 chkE 105:=by
 have F:=func105;have N:=ntmps105;have RS:=results105;have HCON:=Ju;have HNOT:=Ta;have HENT:=Yi;have ONE:=trivial;exact Gc
end Go.Proofs.YtimoefagohifaaaGreatDoor
