/- Part 9; the last part says what is proved. No condition. -/
import Derived.Test.YtjmmbebkbkgefaaGreatDoorB08
set_option linter.unusedVariables false
set_option linter.unusedSimpArgs false
set_option maxHeartbeats 4000000
set_option maxRecDepth 100000
namespace Go.Proofs.YtjmmbebkbkgefaaGreatDoor
open Go.RowKit Go.Sort Tryz
def Says (v:Value) (w:World) (e:Ending) (w':World):Prop:=e=.returned v/\Below w.heap.size w w'
def idxFrom {α:Type} (p:α->Bool):Nat->List α->Int
 | _,[]=>-1
 | k,a::l=>if p a then(k:Int)else idxFrom p (k+1) l
theorem Cs {α:Type} (p:α->Bool):∀(l:List α) (k:Nat),decide (0<=idxFrom p k l)=l.any p
 | [],k=>rfl
 | a::l,k=>by
  rw[idxFrom,List.any_cons];by_cases h:p a=true
  ·simp[h]
  ·have h':p a=false:=by simpa using h
   rw[h',Bool.false_or,<- Cs p l (k+1)];simp
theorem Ev {α:Type} (p:α->Bool) (l:List α):(!(l.any fun a=>!p a))=l.all p:=by
 induction l with
 | nil=>rfl
 | cons a l ih=>simp only[List.any_cons,List.all_cons,Bool.not_or,Bool.not_not,ih]
theorem af {α:Type} (l:List α) (least most:Int) (p:α->Bool):allR l least most p=if least<=(l.length:Int)then(if(l.length:Int)<=most then l.all p else false)else false:=by
 unfold allR;by_cases h:least<=(l.length:Int)<;>by_cases h2:(l.length:Int)<=most<;>simp[h,h2]
theorem LIn.get {α:Type} {E:ElRep α} {Q:Nat->Prop} {w:World}:∀{l:List α} {acs:List Value} {i:Nat} {a:α},LIn E Q w l acs->l[i]?=some a->∃c,E.In Q w a c/\∀j u,c[j]?=some u->acs[i * E.k+j]?=some u
 | [],acs,i,a,_,hi=>by cases hi
 | d::l,acs,0,a,h,hi=>by
  obtain⟨c1,c2,rfl,h1,h2⟩:=h;simp only[List.getElem?_cons_zero,Option.some.injEq]at hi;subst hi;refine⟨c1,h1,fun j u hu=>?_⟩;rw[Nat.zero_mul,Nat.zero_add,List.getElem?_append_left (List.getElem?_eq_some_iff.1 hu).1];exact hu
 | d::l,acs,i+1,a,h,hi=>by
  obtain⟨c1,c2,rfl,h1,h2⟩:=h;simp only[List.getElem?_cons_succ]at hi;obtain⟨c,hc,hj⟩:=LIn.get h2 hi;refine⟨c,hc,fun j u hu=>?_⟩;have:=E.len h1;rw[List.getElem?_append_right (by rw[Nat.succ_mul];omega),show(i+1) * E.k+j - c1.length=i * E.k+j by rw[Nat.succ_mul];omega];exact hj j u hu
theorem RSl.kept {α:Type} {E:ElRep α} (hk:0<E.k) {Q:Nat->Prop} {w w':World} {v:Value} {l:List α} (h:RSl E Q w v l) (hb:Below w.heap.size w w'):RSl E Q w' v l:=Ad hk (fun b hlt k=>⟨k,hb.block b hlt⟩) h
theorem RSl.at {α:Type} {E:ElRep α} {Q:Nat->Prop} {w:World} {v:Value} {l:List α} (h:RSl E Q w v l) {k:Nat} {a:α} (hk:l[k]?=some a):∃b o cap c,v=.slice (some ⟨b,o,none⟩) l.length cap/\E.In Q w a c/\∀j u,c[j]?=some u->w.cell? ⟨b,o+k * E.k+j,none⟩=some u:=by
 obtain⟨acs,⟨ad,cap,rfl,hc,h1⟩,h2⟩:=h;obtain⟨b,o,rfl,_,h3⟩:=h1 (Nat.lt_of_le_of_lt (Nat.zero_le _) (List.getElem?_eq_some_iff.1 hk).1);obtain⟨c,hc,hj⟩:=LIn.get h2 hk;exact⟨b,o,cap,c,rfl,hc,fun j u hu=>by rw[Nat.add_assoc];exact h3 _ _ (hj j u hu)⟩
theorem RSl.slice {α:Type} {E:ElRep α} {Q:Nat->Prop} {w:World} {v:Value} {l:List α} (h:RSl E Q w v l):∃a c,v=.slice a l.length c:=by
 obtain⟨acs,⟨ad,cap,e,_⟩,_⟩:=h;exact⟨ad,cap,e⟩
theorem Yx {cs:List Value} (h:cs.length=1):∃a,cs=[a]:=by
 rcases cs with _|⟨a,_|⟨z,r⟩⟩<;>simp at h
 exact⟨a,rfl⟩
theorem Yw {cs:List Value} (h:cs.length=2):∃a b,cs=[a,b]:=by
 rcases cs with _|⟨a,_|⟨b,_|⟨z,r⟩⟩⟩<;>simp at h
 exact⟨a,b,rfl⟩
theorem Yv {cs:List Value} (h:cs.length=3):∃a b c,cs=[a,b,c]:=by
 rcases cs with _|⟨a,_|⟨b,_|⟨c,_|⟨z,r⟩⟩⟩⟩<;>simp at h
 exact⟨a,b,c,rfl⟩
theorem Yu {cs:List Value} (h:cs.length=5):∃a b c d e,cs=[a,b,c,d,e]:=by
 rcases cs with _|⟨a,_|⟨b,_|⟨c,_|⟨d,_|⟨e,_|⟨z,r⟩⟩⟩⟩⟩⟩<;>simp at h
 exact⟨a,b,c,d,e,rfl⟩
theorem Yt {cs:List Value} (h:cs.length=7):∃a b c d e f g,cs=[a,b,c,d,e,f,g]:=by
 rcases cs with _|⟨a,_|⟨b,_|⟨c,_|⟨d,_|⟨e,_|⟨f,_|⟨g,_|⟨z,r⟩⟩⟩⟩⟩⟩⟩⟩<;>simp at h
 exact⟨a,b,c,d,e,f,g,rfl⟩
theorem Ys {cs:List Value} (h:cs.length=8):∃a b c d e f g i,cs=[a,b,c,d,e,f,g,i]:=by
 rcases cs with _|⟨a,_|⟨b,_|⟨c,_|⟨d,_|⟨e,_|⟨f,_|⟨g,_|⟨i,_|⟨z,r⟩⟩⟩⟩⟩⟩⟩⟩⟩<;>simp at h
 exact⟨a,b,c,d,e,f,g,i,rfl⟩
def OnEls {α:Type} (E:ElRep α) (f:Nat) (R:(α->Bool)->List α->Value):Prop:=∀(g qb:Nat) (Q:Nat->Prop) (p:α->Bool) (l:List α) (v:Value) (w:World),(∀args w,(callFunc g args).run prog w=.ok (.enter g args) w)->RSl E Q w v l->l.length<=4611686018427387904 ->
 Hid (∀W a cs,Below w.heap.size w W->a∈l->E.In Q W a cs->Calls prog g #[E.val cs,.pointer (some ⟨qb,0,none⟩)] W (Says (.bool (p a)) W))->Calls prog f #[v,.func (.func g) #[] #[.pointer (some ⟨qb,0,none⟩)]] w (Says (R p l) w)
def OnEls0 {α:Type} (E:ElRep α) (f:Nat) (R:(α->Bool)->List α->Value):Prop:=∀(g:Nat) (Q:Nat->Prop) (p:α->Bool) (l:List α) (v:Value) (w:World),(∀args w,(callFunc g args).run prog w=.ok (.enter g args) w)->RSl E Q w v l->l.length<=4611686018427387904 ->
 Hid (∀W a cs,Below w.heap.size w W->a∈l->E.In Q W a cs->Calls prog g #[E.val cs] W (Says (.bool (p a)) W))->Calls prog f #[v,.func (.func g) #[] #[]] w (Says (R p l) w)
def NotEl {α:Type} (E:ElRep α) (f:Nat):Prop:=∀(g cb:Nat) (Q:Nat->Prop) (a:α) (cs:List Value) (b:Bool) (w:World),(∀args w,(callFunc g args).run prog w=.ok (.enter g args) w)->w.cell? ⟨cb,0,none⟩=some (.func (.func g) #[] #[])->E.In Q w a cs ->
 Hid (∀W,Below w.heap.size w W->E.In Q W a cs->Calls prog g #[E.val cs] W (Says (.bool b) W))->Calls prog f #[E.val cs,.pointer (some ⟨cb,0,none⟩)] w (Says (.bool (!b)) w)
def AllEls {α:Type} (E:ElRep α) (f:Nat):Prop:=∀(g:Nat) (Q:Nat->Prop) (p:α->Bool) (least most:Int) (l:List α) (v:Value) (w:World),(∀args w,(callFunc g args).run prog w=.ok (.enter g args) w)->RSl E Q w v l->most<=4611686018427387904 ->
 Hid (∀W a cs,Below w.heap.size w W->a∈l->E.In Q W a cs->Calls prog g #[E.val cs] W (Says (.bool (p a)) W))->Calls prog f #[v,.int .i64 least,.int .i64 most,.func (.func g) #[] #[]] w (Says (.bool (allR l least most p)) w)
theorem Hl {P:Prop} (h:P:=by
 first|(clear ONE;intro g qb Q p l v w hfn hv hl HG)|intro g Q p l v w hfn hv hl HG
 obtain⟨a0,cap0,rfl⟩:=hv.slice;have HV:=Lib.hid hv;clear hv;go_enter F,N;go_wp2_with fail;go_loopw [5,8] (fun _ i wr=>∃k:Nat,k<=l.length/\i=.int .i64 k/\Hid (idxFrom p 0 l=idxFrom p k (l.drop k))/\Hid (Below w.heap.size w wr)) (fun _ i _=>l.length - (intOf i).toNat)
 case atStart=>exact⟨0,by omega,rfl,rfl,Below.refl _ _⟩
 case round=>
  obtain⟨k,hk,rfl,HK,HB⟩:=hrel;by_cases hlt:k<l.length
  ·obtain⟨a,hx⟩:∃x,l[k]?=some x:=⟨l[k],by simp[hlt]⟩;obtain⟨b,o,cap,cs,hbo,hin,hat⟩:=((HV.out.kept (by decide) HB.out)).at hx;injection hbo with e1 _ e2;subst e1;subst e2;have C1:=Lib.hid (HG.out wr a cs HB.out (List.mem_of_getElem? hx) hin);have HST:Hid (idxFrom p 0 l=if p a then(k:Int)else idxFrom p (k+1) (l.drop (k+1))):=HK.out.trans (by
    obtain⟨h1,rfl⟩:=List.getElem?_eq_some_iff.1 hx;rw[List.drop_eq_getElem_cons h1,idxFrom])
   have hcl:=ElRep.len _ hin;first
    | obtain⟨c0,rfl⟩:=Yx hcl
    | obtain⟨c0,c1,rfl⟩:=Yw hcl
    | obtain⟨c0,c1,c2,rfl⟩:=Yv hcl
    | obtain⟨c0,c1,c2,c3,c4,rfl⟩:=Yu hcl
    | obtain⟨c0,c1,c2,c3,c4,c5,c6,rfl⟩:=Yt hcl
    | obtain⟨c0,c1,c2,c3,c4,c5,c6,c7,rfl⟩:=Ys hcl
   rw[EK]at hat;have x0:=hat 0 _ rfl;try(have x1:=hat 1 _ rfl)
   try(have x2:=hat 2 _ rfl)
   try(have x3:=hat 3 _ rfl)
   try(have x4:=hat 4 _ rfl)
   try(have x5:=hat 5 _ rfl)
   try(have x6:=hat 6 _ rfl)
   try(have x7:=hat 7 _ rfl)
   simp only[Nat.add_zero,Nat.mul_one]at x0;simp only[EV]at C1;clear HK hx hat hcl hin;by_cases hn:p a=true
   ·have HR:Hid (idxFrom p 0 l=(k:Int)):=by show _=_;rw[HST.out,if_pos hn]
    rw[hn]at C1;clear HST hn;go_wp2_with fail;refine Calls.mono C1.out ?_;rintro e w1 ⟨rfl,hb1⟩;have HB1:=Lib.hid (HB.out.step hb1);clear hb1;go_wp2_with fail;go_returns;exact⟨by rw[HR.out];rfl,HB1.out⟩
   ·have HR:Hid (idxFrom p 0 l=idxFrom p (k+1) (l.drop (k+1))):=by show _=_;rw[HST.out,if_neg hn]
    have hd:p a=false:=by simpa using hn
    rw[hd]at C1;clear HST hn hd;go_wp2_with fail;refine Calls.mono C1.out ?_;rintro e w1 ⟨rfl,hb1⟩;have HB1:=Lib.hid (HB.out.step hb1);clear hb1;go_wp2_with fail;go_roundw
    case rel=>exact⟨k+1,by omega,by go_num,HR.out,HB1.out⟩
    case measure=>simp[intOf];omega
  ·obtain rfl:k=l.length:=by omega
   have HR:Hid (idxFrom p 0 l= -1):=by show _=_;rw[HK.out,List.drop_length];rfl
   clear HK;go_wp2_with fail;go_returns;exact⟨by rw[HR.out];rfl,HB.out⟩):P:=h
theorem Hm {P:Prop} (h:P:=by
 first
  | (clear ONE;intro g qb Q p l v w hfn hv hl HG;have HC:=Lib.hid (HI g qb Q p l v w hfn hv hl HG))
  | (intro g Q p l v w hfn hv hl HG;have HC:=Lib.hid (HI g Q p l v w hfn hv hl HG))
 have HD:=Lib.hid (Cs p l 0);clear HG hv HI;go_enter F,N;go_wp2_with fail;refine Calls.mono HC.out ?_;rintro e w1 ⟨rfl,hb1⟩;go_wp2_with fail;exact bodyPost_ret (v:=.bool (l.any p)) (by simp[results,RS,go_sem,<- HD.out]) rfl ⟨rfl,hb1⟩):P:=h
theorem Mq {P:Prop} (h:P:=by
 first|(clear ONE;intro g qb cb Q a cs b w hfn hc hin HG)|intro g cb Q a cs b w hfn hc hin HG
 have HX:=Lib.hid (fun W (hW:Below w.heap.size w W)=>HG.out W hW (ElRep.move _ (fun c hlt k=>⟨k,hW.block c hlt⟩) hin));clear HG;have hcl:=ElRep.len _ hin;first
  | obtain⟨c0,rfl⟩:=Yx hcl
  | obtain⟨c0,c1,rfl⟩:=Yw hcl
  | obtain⟨c0,c1,c2,rfl⟩:=Yv hcl
  | obtain⟨c0,c1,c2,c3,c4,rfl⟩:=Yu hcl
  | obtain⟨c0,c1,c2,c3,c4,c5,c6,rfl⟩:=Yt hcl
  | obtain⟨c0,c1,c2,c3,c4,c5,c6,c7,rfl⟩:=Ys hcl
 simp only[EV]at HX ⊢;clear hcl hin;have y1:=hc;first|(have y2:=KB c0 c1 hc)|(have y2:=KB c0 c1 c2 hc)|(have y2:=KB c0 c1 c2 c3 c4 hc)|(have y2:=KB c0 c1 c2 c3 c4 c5 c6 hc)|(have y2:=KB c0 c1 c2 c3 c4 c5 c6 c7 hc)|skip
 clear hc;go_enter F,N;go_wp2_with fail;refine Calls.mono (HX.out _ (by first|exact Below.refl _ _|exact(Below.refl _ _).alloc (Nat.le_refl _) _)) ?_;rintro e w1 ⟨rfl,hb1⟩;go_wp2_with fail;exact bodyPost_ret (v:=.bool (!b)) (by simp[results,RS,go_sem]) rfl ⟨rfl,by first|exact hb1|exact((Below.refl _ _).alloc (Nat.le_refl _) _).step hb1⟩):P:=h
theorem Mr {P:Prop} (h:P:=by
 first
  | (clear ONE;intro g qb Q p least most l v w hfn hv hm HG;have HC:=Lib.hid (fun(t:Nat) (hl:l.length<=4611686018427387904)=>HCON _ w.heap.size Q (fun a=>!p a) l v (w.alloc (.cells #[.func (.func g) #[] #[.pointer (some ⟨qb,0,none⟩)]] t)) HENT (hv.kept (by decide) ((Below.refl _ _).alloc (Nat.le_refl _) _)) hl (fun W a cs hW ha hin=>HNOT g qb w.heap.size Q a cs (p a) W hfn (hW.cell_kept (by simp only[World.cell?,World.alloc_heap_new];rfl)) hin (fun W' hW' hin'=>HG.out W' a cs ((((Below.refl _ _).alloc (Nat.le_refl _) _).trans (hW.mono (by simp))).step hW') ha hin'))))
  | (intro g Q p least most l v w hfn hv hm HG;have HC:=Lib.hid (fun(t:Nat) (hl:l.length<=4611686018427387904)=>HCON _ w.heap.size Q (fun a=>!p a) l v (w.alloc (.cells #[.func (.func g) #[] #[]] t)) HENT (hv.kept (by decide) ((Below.refl _ _).alloc (Nat.le_refl _) _)) hl (fun W a cs hW ha hin=>HNOT g w.heap.size Q a cs (p a) W hfn (hW.cell_kept (by simp only[World.cell?,World.alloc_heap_new];rfl)) hin (fun W' hW' hin'=>HG.out W' a cs ((((Below.refl _ _).alloc (Nat.le_refl _) _).trans (hW.mono (by simp))).step hW') ha hin'))))
 have HE:=Lib.hid (af l least most p);have HN:=Lib.hid (Ev p l);obtain⟨a0,cap0,rfl⟩:=hv.slice;clear HG hv HCON HNOT HENT;go_enter F,N;by_cases h1:least<=(l.length:Int)
 ·by_cases h2:(l.length:Int)<=most
  ·have HR:Hid (allR l least most p=!(l.any fun a=>!p a)):=by show _=_;rw[HE.out,if_pos h1,if_pos h2,HN.out]
   clear HE HN;go_wp2_with fail;refine Calls.mono (HC.out _ (by omega)) ?_;rintro e w1 ⟨rfl,hb1⟩;have HB1:=Lib.hid (((Below.refl _ _).alloc (Nat.le_refl _) _).step hb1);clear hb1 HC;generalize (l.any fun a=>!p a)=b at *;go_wp2_with fail;exact bodyPost_ret (v:=.bool (!b)) (by simp[results,RS,go_sem]) rfl ⟨by rw[HR.out],HB1.out⟩
  ·have HR:Hid (allR l least most p=false):=by show _=_;rw[HE.out,if_pos h1,if_neg h2]
   clear HE HN HC;go_wp2_with fail;exact bodyPost_ret (v:=.bool false) (by simp[results,RS,go_sem]) rfl ⟨by rw[HR.out],(Below.refl _ _).alloc (Nat.le_refl _) _⟩
 ·have HR:Hid (allR l least most p=false):=by show _=_;rw[HE.out,if_neg h1]
  clear HE HN HC;go_wp2_with fail;exact bodyPost_ret (v:=.bool false) (by simp[results,RS,go_sem]) rfl ⟨by rw[HR.out],(Below.refl _ _).alloc (Nat.le_refl _) _⟩):P:=h
theorem Rj:OnEls strE 150 (fun p l=>.int .i64 (idxFrom p 0 l)):=by
 have F:=func150;have N:=ntmps150;have EK:strE.k=1:=rfl;have EV:∀a:Value,strE.val [a]=a:=fun _=>rfl;have ONE:=trivial;exact Hl
theorem I0:OnEls strE 73 (fun p l=>.bool (l.any p)):=by
 have F:=func73;have N:=ntmps73;have RS:=results73;have HI:=Rj;have ONE:=trivial;exact Hm
theorem V7:En 74:=enters_of func74 (by kernel_rfl) rfl
theorem Qz:NotEl strE 74:=by
 have F:=func74;have N:=ntmps74;have RS:=results74;have EV:∀a:Value,strE.val [a]=a:=fun _=>rfl;exact Mq
theorem Wo:AllEls strE 24:=by
 have F:=func24;have N:=ntmps24;have RS:=results24;have HCON:=I0;have HNOT:=Qz;have HENT:=V7;exact Mr
theorem Ri:OnEls exE 159 (fun p l=>.int .i64 (idxFrom p 0 l)):=by
 have F:=func159;have N:=ntmps159;have EK:exE.k=7:=rfl;have EV:∀a b c d e f g:Value,exE.val [a,b,c,d,e,f,g]=.agg #[a,b,c,d,e,f,g]:=fun _ _ _ _ _ _ _=>rfl;have ONE:=trivial;exact Hl
theorem Iz:OnEls exE 84 (fun p l=>.bool (l.any p)):=by
 have F:=func84;have N:=ntmps84;have RS:=results84;have HI:=Ri;have ONE:=trivial;exact Hm
theorem V5:En 85:=enters_of func85 (by kernel_rfl) rfl
theorem M5:OnEls0 exE 159 (fun p l=>.int .i64 (idxFrom p 0 l)):=by
 have F:=func159;have N:=ntmps159;have EK:exE.k=7:=rfl;have EV:∀a b c d e f g:Value,exE.val [a,b,c,d,e,f,g]=.agg #[a,b,c,d,e,f,g]:=fun _ _ _ _ _ _ _=>rfl;exact Hl
theorem contains113_plain:OnEls0 exE 84 (fun p l=>.bool (l.any p)):=by
 have F:=func84;have N:=ntmps84;have RS:=results84;have HI:=M5;exact Hm
theorem Qx:NotEl exE 85:=by
 have F:=func85;have N:=ntmps85;have RS:=results85;have EV:∀a b c d e f g:Value,exE.val [a,b,c,d,e,f,g]=.agg #[a,b,c,d,e,f,g]:=fun _ _ _ _ _ _ _=>rfl;have KB:∀{w:World} {cb:Nat} {v:Value} (a b c d e f g:Value),w.cell? ⟨cb,0,none⟩=some v->(w.alloc (.cells #[a,b,c,d,e,f,g] 27)).cell? ⟨cb,0,none⟩=some v:=fun _ _ _ _ _ _ _ hc=>((Below.refl _ _).alloc (Nat.le_refl _) _).cell_kept hc;exact Mq
theorem Me:AllEls exE 33:=by
 have F:=func33;have N:=ntmps33;have RS:=results33;have HCON:=Iz;have HNOT:=Qx;have HENT:=V5;exact Mr
theorem Rh:OnEls pkE 207 (fun p l=>.int .i64 (idxFrom p 0 l)):=by
 have F:=func207;have N:=ntmps207;have EK:pkE.k=8:=rfl;have EV:∀a b c d e f g i:Value,pkE.val [a,b,c,d,e,f,g,i]=.agg #[a,b,c,d,e,f,g,i]:=fun _ _ _ _ _ _ _ _=>rfl;have ONE:=trivial;exact Hl
theorem Iy:OnEls pkE 161 (fun p l=>.bool (l.any p)):=by
 have F:=func161;have N:=ntmps161;have RS:=results161;have HI:=Rh;have ONE:=trivial;exact Hm
theorem V0:En 162:=enters_of func162 (by kernel_rfl) rfl
theorem Qw:NotEl pkE 162:=by
 have F:=func162;have N:=ntmps162;have RS:=results162;have EV:∀a b c d e f g i:Value,pkE.val [a,b,c,d,e,f,g,i]=.agg #[a,b,c,d,e,f,g,i]:=fun _ _ _ _ _ _ _ _=>rfl;have KB:∀{w:World} {cb:Nat} {v:Value} (a b c d e f g i:Value),w.cell? ⟨cb,0,none⟩=some v->(w.alloc (.cells #[a,b,c,d,e,f,g,i] 70)).cell? ⟨cb,0,none⟩=some v:=fun _ _ _ _ _ _ _ _ hc=>((Below.refl _ _).alloc (Nat.le_refl _) _).cell_kept hc;exact Mq
theorem Se:AllEls pkE 88:=by
 have F:=func88;have N:=ntmps88;have RS:=results88;have HCON:=Iy;have HNOT:=Qw;have HENT:=V0;exact Mr
theorem Rg:OnEls srtE 208 (fun p l=>.int .i64 (idxFrom p 0 l)):=by
 have F:=func208;have N:=ntmps208;have EK:srtE.k=2:=rfl;have EV:∀a b:Value,srtE.val [a,b]=.agg #[a,b]:=fun _ _=>rfl;have ONE:=trivial;exact Hl
theorem Ix:OnEls srtE 163 (fun p l=>.bool (l.any p)):=by
 have F:=func163;have N:=ntmps163;have RS:=results163;have HI:=Rg;have ONE:=trivial;exact Hm
theorem Vz:En 164:=enters_of func164 (by kernel_rfl) rfl
theorem Qv:NotEl srtE 164:=by
 have F:=func164;have N:=ntmps164;have RS:=results164;have EV:∀a b:Value,srtE.val [a,b]=.agg #[a,b]:=fun _ _=>rfl;have KB:∀{w:World} {cb:Nat} {v:Value} (a b:Value),w.cell? ⟨cb,0,none⟩=some v->(w.alloc (.cells #[a,b] 156)).cell? ⟨cb,0,none⟩=some v:=fun _ _ hc=>((Below.refl _ _).alloc (Nat.le_refl _) _).cell_kept hc;exact Mq
theorem Sd:AllEls srtE 91:=by
 have F:=func91;have N:=ntmps91;have RS:=results91;have HCON:=Ix;have HNOT:=Qv;have HENT:=Vz;exact Mr
end Go.Proofs.YtjmmbebkbkgefaaGreatDoor
