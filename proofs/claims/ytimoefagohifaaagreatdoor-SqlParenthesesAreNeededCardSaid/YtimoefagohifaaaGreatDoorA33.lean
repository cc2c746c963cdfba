/- Laws that the last part needs. No condition. -/
import Derived.Test.YtimoefagohifaaaGreatDoorA32
set_option maxHeartbeats 4000000
set_option maxRecDepth 100000
namespace Go.Proofs.YtimoefagohifaaaGreatDoor
open Go.RowKit Go.Sort Tryz
section
variable {base wb:Nat} {w0 w w' w2:World} {L:List Blk} {xs ys zs:List Bytes}
theorem WFr.drop (h:WFr base wb w0 w L xs):WFr base wb w0 w [] xs:=⟨h.wr,⟨h.st.turn,by simp,by simp⟩,by simp,by simp⟩
structure QAt (wb qb:Nat) (w:World):Prop where
 h:w.heap[qb]?=some (.cells #[.pointer (O wb)] 85 (0,0))
 n:¬WOwn wb w qb
theorem QAt.went {qb:Nat} (h:QAt wb qb w) (k:Wrote base wb w w' ys):QAt wb qb w':=⟨(Bn h.h h.n k).1,(Bn h.h h.n k).2⟩
theorem QAt.cell {qb:Nat} (h:QAt wb qb w):w.cell? ⟨qb,0,none⟩=some (.pointer (O wb)):=by
 have h1:=h.h;exact z98
theorem Uc {α:Type} (f:α->List Bytes) (l:List α) (a:α):eachP f (l++[a])=eachP f l++(whenP (decide (0<l.length)) [[44]]++f a):=by
 cases l with
 | nil=>simp[eachP,whenP]
 | cons b l=>simp[eachP,whenP]
theorem Lk {α:Type} (f:α->List Bytes) {l:List α} {k:Nat} {a:α} (h:l[k]?=some a):eachP f (l.take (k+1))=eachP f (l.take k)++(whenP (decide (0<k)) [[44]]++f a):=by
 obtain⟨hk,rfl⟩:=uu.1 h;rw[yd hk,Uc,List.length_take,Nat.min_eq_left (yq hk)]
theorem Qx {α:Type} (f:α->List Bytes) (l:List α) (k:Nat):(eachP f (l.take k)).length<=(eachP f l).length:=by
 cases l with
 | nil=>simp[eachP]
 | cons b l=>
  cases k with
  | zero=>simp[eachP]
  | succ k=>
   simp only[zn,eachP,ua];have:((l.take k).flatMap fun y=>[44]::f y).length<=(l.flatMap fun y=>[44]::f y).length:=ahz;omega
theorem Ug (qb:Nat) (f:Bytes->List Bytes) (l:List Bytes) (v:Value) (w:World) (hv:RSl strE (·<base) w v l) (h:Wrt base w wb xs) (he:Env base w) (hq:QAt wb qb w) (hl:l.length<=1000000) (hn:xs.length+(eachP f l).length+10<=1000000000) (HG:Hid (∀W zs a cs,a∈l->strE.In (·<base) W a cs->Wrt base W wb zs->Env base W->QAt wb qb W->zs.length+(f a).length+10<=1000000000->Calls prog 27 #[strE.val cs,.pointer (some ⟨qb,0,none⟩)] W (Puts base wb W (zs++f a)))):Calls prog 26 #[.pointer (some ⟨wb,0,none⟩),v,.func (.func 27) #[] #[.pointer (some ⟨qb,0,none⟩)]] w (Puts base wb w (xs++eachP f l)):=by
 refine z277 ?_;intro H HE;have HQ:=tm hq;have HN:=tm hn;obtain⟨a0,cap0,rfl⟩:=hv.slice;have HV:=tm hv;have hcall:∀args w,(callFunc 27 args).run prog w=.ok (.enter 27 args) w:=enters_of func27 acz rfl;clear h he hv hn hq;go_enter func26,ntmps26;go_wp2_with fail;go_loopw [6,7,10] (fun _ _ i wr=>∃k:Nat,k<=l.length/\i=U k/\Hid (WFr base wb w wr [] (xs++eachP f (l.take k)))) (fun _ _ i _=>l.length - (intOf i).toNat)
 case atStart=>exact⟨0,by omega,rfl,by show WFr _ _ _ _ _ _;simpa[eachP]using WFr.start H.out⟩
 case round=>
  obtain⟨k,hk,rfl,S⟩:=hrel;by_cases hlt:k<l.length
  ·refine qh ?_;intro a hx;have hv1:RSl strE (·<base) wr (.slice a0 l.length cap0) l:=rSl_move acy (fun b hb hq=>⟨hq,(S.out.old H.out).block b hb acw⟩) HV.out;obtain⟨b,o,cap,cs,hbo,hin,hat⟩:=hv1.at hx;injection hbo with e1 _ e2;subst e1;subst e2;refine Rh ?_;intro hst hle HST;have HIN:Hid (strE.In (·<base) wr a cs):=hin;refine Kb ?_;clear HST hle;intro HM q hq hqi hwl hn2 fa hfa HST hle;have C:Hid (∀W,WFr base wb w W [] (xs++eachP f (l.take k)++whenP q [[44]])->strE.In (·<base) W a cs->Calls prog 27 #[strE.val cs,.pointer (some ⟨qb,0,none⟩)] W (Puts base wb W (xs++eachP f (l.take k)++whenP q [[44]]++fa))):=qu;clear hfa HM hst;have h1:cs=[.string (Y a)]:=hin;subst h1;have x0:=hat 0 _ rfl;simp only[show strE.k=1 from rfl,u0,aac]at x0;change Hid (∀W,WFr base wb w W [] (xs++eachP f (l.take k)++whenP q [[44]])->strE.In (·<base) W _ _->Calls prog 27 #[.string ⟨a.toArray⟩,.pointer (some ⟨qb,0,none⟩)] W (Puts base wb W (xs++eachP f (l.take k)++whenP q [[44]]++fa)))at C;clear hx hat hv1;generalize hyk:xs++eachP f (l.take k)=yk at *;have hyl:yk.length=xs.length+(eachP f (l.take k)).length:=by rw[<- hyk,ua]
   go_wp2_with fail;have Sc:Hid (WFr base wb w (wr.alloc (.cells #[.string ⟨#[44]⟩] 9)) [(wr.heap.size,#[.string ⟨#[44]⟩],9)] yk):=by
    have:=WFr.alloc S.out (cs:=#[.string ⟨#[44]⟩]) (t:=9);exact Zh
   refine z79 ?_;intro w2 S2;have HI:Hid (strE.In (·<base) w2 _ _):=strE.move (fun b hb hq=>⟨hq,by
    have hlt:b<w.heap.size:=vw hq HE.out.hi;rw[(S2.out.old H.out).block b hlt acw,(S.out.old H.out).block b hlt acw]⟩) HIN.out
   exact py
  ·exact z41
theorem Uf (qb:Nat) (f:(List V)->List Bytes) (l:List (List V)) (v:Value) (w:World) (hv:RSl rowE (·<base) w v l) (h:Wrt base w wb xs) (he:Env base w) (hq:QAt wb qb w) (hl:l.length<=1000000) (hn:xs.length+(eachP f l).length+10<=1000000000) (HG:Hid (∀W zs a cs,a∈l->rowE.In (·<base) W a cs->Wrt base W wb zs->Env base W->QAt wb qb W->zs.length+(f a).length+10<=1000000000->Calls prog 29 #[rowE.val cs,.pointer (some ⟨qb,0,none⟩)] W (Puts base wb W (zs++f a)))):Calls prog 28 #[.pointer (some ⟨wb,0,none⟩),v,.func (.func 29) #[] #[.pointer (some ⟨qb,0,none⟩)]] w (Puts base wb w (xs++eachP f l)):=by
 refine z277 ?_;intro H HE;have HQ:=tm hq;have HN:=tm hn;obtain⟨a0,cap0,rfl⟩:=hv.slice;have HV:=tm hv;have hcall:∀args w,(callFunc 29 args).run prog w=.ok (.enter 29 args) w:=enters_of func29 acz rfl;clear h he hv hn hq;go_enter func28,ntmps28;go_wp2_with fail;go_loopw [6,7,10] (fun _ _ i wr=>∃k:Nat,k<=l.length/\i=U k/\Hid (WFr base wb w wr [] (xs++eachP f (l.take k)))) (fun _ _ i _=>l.length - (intOf i).toNat)
 case atStart=>exact⟨0,by omega,rfl,by show WFr _ _ _ _ _ _;simpa[eachP]using WFr.start H.out⟩
 case round=>
  obtain⟨k,hk,rfl,S⟩:=hrel;by_cases hlt:k<l.length
  ·refine qh ?_;intro a hx;have hv1:RSl rowE (·<base) wr (.slice a0 l.length cap0) l:=rSl_move acy (fun b hb hq=>⟨hq,(S.out.old H.out).block b hb acw⟩) HV.out;obtain⟨b,o,cap,cs,hbo,hin,hat⟩:=hv1.at hx;injection hbo with e1 _ e2;subst e1;subst e2;refine Rh ?_;intro hst hle HST;have HIN:Hid (rowE.In (·<base) wr a cs):=hin;refine Kb ?_;clear HST hle;intro HM q hq hqi hwl hn2 fa hfa HST hle;have C:Hid (∀W,WFr base wb w W [] (xs++eachP f (l.take k)++whenP q [[44]])->rowE.In (·<base) W a cs->Calls prog 29 #[rowE.val cs,.pointer (some ⟨qb,0,none⟩)] W (Puts base wb W (xs++eachP f (l.take k)++whenP q [[44]]++fa))):=qu;clear hfa HM hst;have hin0:=hin;obtain⟨v0,rfl,acs,⟨ad,ac,rfl,_⟩,_⟩:=hin;have x0:=hat 0 _ rfl;simp only[show rowE.k=1 from rfl,u0,aac]at x0;change Hid (∀W,WFr base wb w W [] (xs++eachP f (l.take k)++whenP q [[44]])->rowE.In (·<base) W _ _->Calls prog 29 #[.slice ad a.length ac,.pointer (some ⟨qb,0,none⟩)] W (Puts base wb W (xs++eachP f (l.take k)++whenP q [[44]]++fa)))at C;clear hx hat hv1 hin0;generalize hyk:xs++eachP f (l.take k)=yk at *;have hyl:yk.length=xs.length+(eachP f (l.take k)).length:=by rw[<- hyk,ua]
   go_wp2_with fail;have Sc:Hid (WFr base wb w (wr.alloc (.cells #[.string ⟨#[44]⟩] 9)) [(wr.heap.size,#[.string ⟨#[44]⟩],9)] yk):=by
    have:=WFr.alloc S.out (cs:=#[.string ⟨#[44]⟩]) (t:=9);exact Zh
   refine z79 ?_;intro w2 S2;have HI:Hid (rowE.In (·<base) w2 _ _):=rowE.move (fun b hb hq=>⟨hq,by
    have hlt:b<w.heap.size:=vw hq HE.out.hi;rw[(S2.out.old H.out).block b hlt acw,(S.out.old H.out).block b hlt acw]⟩) HIN.out
   exact py
  ·exact z41
theorem Ue (f:V->List Bytes) (l:List V) (v:Value) (w:World) (hv:RSl valE (·<base) w v l) (h:Wrt base w wb xs) (he:Env base w) (hl:l.length<=1000000) (hn:xs.length+(eachP f l).length+10<=1000000000) (HG:Hid (∀W zs a cs,a∈l->valE.In (·<base) W a cs->Wrt base W wb zs->Env base W->zs.length+(f a).length+10<=1000000000->Calls prog 31 #[.pointer (some ⟨wb,0,none⟩),valE.val cs] W (Puts base wb W (zs++f a)))):Calls prog 30 #[.pointer (some ⟨wb,0,none⟩),v,.func (.func 31) #[.pointer (some ⟨wb,0,none⟩)] #[]] w (Puts base wb w (xs++eachP f l)):=by
 refine z277 ?_;intro H HE;skip;have HN:=tm hn;obtain⟨a0,cap0,rfl⟩:=hv.slice;have HV:=tm hv;have hcall:∀args w,(callFunc 31 args).run prog w=.ok (.enter 31 args) w:=enters_of func31 acz rfl;clear h he hv hn;go_enter func30,ntmps30;go_wp2_with fail;go_loopw [6,7,10] (fun _ _ i wr=>∃k:Nat,k<=l.length/\i=U k/\Hid (WFr base wb w wr [] (xs++eachP f (l.take k)))) (fun _ _ i _=>l.length - (intOf i).toNat)
 case atStart=>exact⟨0,by omega,rfl,by show WFr _ _ _ _ _ _;simpa[eachP]using WFr.start H.out⟩
 case round=>
  obtain⟨k,hk,rfl,S⟩:=hrel;by_cases hlt:k<l.length
  ·refine qh ?_;intro a hx;have hv1:RSl valE (·<base) wr (.slice a0 l.length cap0) l:=rSl_move acy (fun b hb hq=>⟨hq,(S.out.old H.out).block b hb acw⟩) HV.out;obtain⟨b,o,cap,cs,hbo,hin,hat⟩:=hv1.at hx;injection hbo with e1 _ e2;subst e1;subst e2;refine Rh ?_;intro hst hle HST;have HIN:Hid (valE.In (·<base) wr a cs):=hin;refine Kb ?_;clear HST hle;intro HM q hq hqi hwl hn2 fa hfa HST hle;have C:Hid (∀W,WFr base wb w W [] (xs++eachP f (l.take k)++whenP q [[44]])->valE.In (·<base) W a cs->Calls prog 31 #[.pointer (some ⟨wb,0,none⟩),valE.val cs] W (Puts base wb W (xs++eachP f (l.take k)++whenP q [[44]]++fa))):=M4;clear hfa HM hst;have h1:cs=[U a.k,U a.n,.string a.s]:=hin;subst h1;have x0:=hat 0 _ rfl;have x1:=hat 1 _ rfl;have x2:=hat 2 _ rfl;simp only[show valE.k=3 from rfl,u0]at x0 x1 x2;change Hid (∀W,WFr base wb w W [] (xs++eachP f (l.take k)++whenP q [[44]])->valE.In (·<base) W _ _->Calls prog 31 #[.pointer (some ⟨wb,0,none⟩),.agg #[.int .i64 a.k,.int .i64 a.n,.string a.s]] W (Puts base wb W (xs++eachP f (l.take k)++whenP q [[44]]++fa)))at C;clear hx hat hv1;generalize hyk:xs++eachP f (l.take k)=yk at *;have hyl:yk.length=xs.length+(eachP f (l.take k)).length:=by rw[<- hyk,ua]
   go_wp2_with fail;have Sc:Hid (WFr base wb w ((wr.alloc (.cells #[U a.k,U a.n,.string a.s] 42)).alloc (.cells #[.string ⟨#[44]⟩] 9)) [(wr.heap.size+1,#[.string ⟨#[44]⟩],9),(wr.heap.size,#[U a.k,U a.n,.string a.s],42)] yk):=by
    have:=WFr.alloc (WFr.alloc S.out (cs:=#[U a.k,U a.n,.string a.s]) (t:=42)) (cs:=#[.string ⟨#[44]⟩]) (t:=9);exact Zh
   refine z79 ?_;intro w2 S2;have HI:Hid (valE.In (·<base) w2 _ _):=valE.move (fun b hb hq=>⟨hq,by
    have hlt:b<w.heap.size:=vw hq HE.out.hi;rw[(S2.out.old H.out).block b hlt acw,(S.out.old H.out).block b hlt acw]⟩) HIN.out
   exact ah4
  ·exact z41
theorem each88_any (f:Col->List Bytes) (l:List Col) (v:Value) (w:World) (hv:RSl colE (·<base) w v l) (h:Wrt base w wb xs) (he:Env base w) (hl:l.length<=1000000) (hn:xs.length+(eachP f l).length+10<=1000000000) (HG:Hid (∀W zs a cs,a∈l->colE.In (·<base) W a cs->Wrt base W wb zs->Env base W->zs.length+(f a).length+10<=1000000000->Calls prog 24 #[.pointer (some ⟨wb,0,none⟩),colE.val cs] W (Puts base wb W (zs++f a)))):Calls prog 88 #[.pointer (some ⟨wb,0,none⟩),v,.func (.func 24) #[.pointer (some ⟨wb,0,none⟩)] #[]] w (Puts base wb w (xs++eachP f l)):=by
 refine z277 ?_;intro H HE;skip;have HN:=tm hn;obtain⟨a0,cap0,rfl⟩:=hv.slice;have HV:=tm hv;have hcall:∀args w,(callFunc 24 args).run prog w=.ok (.enter 24 args) w:=enters_of func24 acz rfl;clear h he hv hn;go_enter func88,ntmps88;go_wp2_with fail;go_loopw [6,7,10] (fun _ _ i wr=>∃k:Nat,k<=l.length/\i=U k/\Hid (WFr base wb w wr [] (xs++eachP f (l.take k)))) (fun _ _ i _=>l.length - (intOf i).toNat)
 case atStart=>exact⟨0,by omega,rfl,by show WFr _ _ _ _ _ _;simpa[eachP]using WFr.start H.out⟩
 case round=>
  obtain⟨k,hk,rfl,S⟩:=hrel;by_cases hlt:k<l.length
  ·refine qh ?_;intro a hx;have hv1:RSl colE (·<base) wr (.slice a0 l.length cap0) l:=rSl_move acy (fun b hb hq=>⟨hq,(S.out.old H.out).block b hb acw⟩) HV.out;obtain⟨b,o,cap,cs,hbo,hin,hat⟩:=hv1.at hx;injection hbo with e1 _ e2;subst e1;subst e2;refine Rh ?_;intro hst hle HST;have HIN:Hid (colE.In (·<base) wr a cs):=hin;refine Kb ?_;clear HST hle;intro HM q hq hqi hwl hn2 fa hfa HST hle;have C:Hid (∀W,WFr base wb w W [] (xs++eachP f (l.take k)++whenP q [[44]])->colE.In (·<base) W a cs->Calls prog 24 #[.pointer (some ⟨wb,0,none⟩),colE.val cs] W (Puts base wb W (xs++eachP f (l.take k)++whenP q [[44]]++fa))):=M4;clear hfa HM hst;have h1:cs=[.string (Y a.name),U a.kind,.bool a.null]:=hin;subst h1;have x0:=hat 0 _ rfl;have x1:=hat 1 _ rfl;have x2:=hat 2 _ rfl;simp only[show colE.k=3 from rfl,u0]at x0 x1 x2;change Hid (∀W,WFr base wb w W [] (xs++eachP f (l.take k)++whenP q [[44]])->colE.In (·<base) W _ _->Calls prog 24 #[.pointer (some ⟨wb,0,none⟩),.agg #[.string ⟨a.name.toArray⟩,.int .i64 a.kind,.bool a.null]] W (Puts base wb W (xs++eachP f (l.take k)++whenP q [[44]]++fa)))at C;clear hx hat hv1;generalize hyk:xs++eachP f (l.take k)=yk at *;have hyl:yk.length=xs.length+(eachP f (l.take k)).length:=by rw[<- hyk,ua]
   go_wp2_with fail;have Sc:Hid (WFr base wb w ((wr.alloc (.cells #[.string (Y a.name),U a.kind,.bool a.null] 37)).alloc (.cells #[.string ⟨#[44]⟩] 9)) [(wr.heap.size+1,#[.string ⟨#[44]⟩],9),(wr.heap.size,#[.string (Y a.name),U a.kind,.bool a.null],37)] yk):=by
    have:=WFr.alloc (WFr.alloc S.out (cs:=#[.string (Y a.name),U a.kind,.bool a.null]) (t:=37)) (cs:=#[.string ⟨#[44]⟩]) (t:=9);exact Zh
   refine z79 ?_;intro w2 S2;have HI:Hid (colE.In (·<base) w2 _ _):=colE.move (fun b hb hq=>⟨hq,by
    have hlt:b<w.heap.size:=vw hq HE.out.hi;rw[(S2.out.old H.out).block b hlt acw,(S.out.old H.out).block b hlt acw]⟩) HIN.out
   exact ah4
  ·exact z41
theorem Ud (f:Pk->List Bytes) (l:List Pk) (v:Value) (w:World) (hv:RSl pkE (·<base) w v l) (h:Wrt base w wb xs) (he:Env base w) (hl:l.length<=1000000) (hn:xs.length+(eachP f l).length+10<=1000000000) (HG:Hid (∀W zs a cs,a∈l->pkE.In (·<base) W a cs->Wrt base W wb zs->Env base W->zs.length+(f a).length+10<=1000000000->Calls prog 94 #[.pointer (some ⟨wb,0,none⟩),pkE.val cs] W (Puts base wb W (zs++f a)))):Calls prog 93 #[.pointer (some ⟨wb,0,none⟩),v,.func (.func 94) #[.pointer (some ⟨wb,0,none⟩)] #[]] w (Puts base wb w (xs++eachP f l)):=by
 refine z277 ?_;intro H HE;skip;have HN:=tm hn;obtain⟨a0,cap0,rfl⟩:=hv.slice;have HV:=tm hv;have hcall:∀args w,(callFunc 94 args).run prog w=.ok (.enter 94 args) w:=enters_of func94 acz rfl;clear h he hv hn;go_enter func93,ntmps93;go_wp2_with fail;go_loopw [6,7,10] (fun _ _ i wr=>∃k:Nat,k<=l.length/\i=U k/\Hid (WFr base wb w wr [] (xs++eachP f (l.take k)))) (fun _ _ i _=>l.length - (intOf i).toNat)
 case atStart=>exact⟨0,by omega,rfl,by show WFr _ _ _ _ _ _;simpa[eachP]using WFr.start H.out⟩
 case round=>
  obtain⟨k,hk,rfl,S⟩:=hrel;by_cases hlt:k<l.length
  ·refine qh ?_;intro a hx;have hv1:RSl pkE (·<base) wr (.slice a0 l.length cap0) l:=rSl_move acy (fun b hb hq=>⟨hq,(S.out.old H.out).block b hb acw⟩) HV.out;obtain⟨b,o,cap,cs,hbo,hin,hat⟩:=hv1.at hx;injection hbo with e1 _ e2;subst e1;subst e2;refine Rh ?_;intro hst hle HST;have HIN:Hid (pkE.In (·<base) wr a cs):=hin;refine Kb ?_;clear HST hle;intro HM q hq hqi hwl hn2 fa hfa HST hle;have C:Hid (∀W,WFr base wb w W [] (xs++eachP f (l.take k)++whenP q [[44]])->pkE.In (·<base) W a cs->Calls prog 94 #[.pointer (some ⟨wb,0,none⟩),pkE.val cs] W (Puts base wb W (xs++eachP f (l.take k)++whenP q [[44]]++fa))):=M4;clear hfa HM hst;have hin0:=hin;obtain⟨fn,⟨op,t,n,v,args⟩⟩:=a;obtain⟨c,rfl,ad0,acs,rfl,⟨ad,ac,rfl,_⟩,_⟩:=hin;refine fu ?_;intro x0 x1 x2 x3 x4 x5 x6;have x7:=hat 7 _ rfl;simp only[show pkE.k=8 from rfl,u0]at x0 x1 x2 x3 x4 x5 x6 x7;change Hid (∀W,WFr base wb w W [] (xs++eachP f (l.take k)++whenP q [[44]])->pkE.In (·<base) W _ _->Calls prog 94 #[.pointer (some ⟨wb,0,none⟩),.agg #[.int .i64 fn,.int .i64 op,.string ⟨t.toArray⟩,.string ⟨n.toArray⟩,.int .i64 v.k,.int .i64 v.n,.string v.s,.slice ad args.length ac]] W (Puts base wb W (xs++eachP f (l.take k)++whenP q [[44]]++fa)))at C;clear hx hat hv1 hin0;generalize hyk:xs++eachP f (l.take k)=yk at *;have hyl:yk.length=xs.length+(eachP f (l.take k)).length:=by rw[<- hyk,ua]
   go_wp2_with fail;have Sc:Hid (WFr base wb w ((wr.alloc (.cells #[U fn,U op,.string (Y t),.string (Y n),U v.k,U v.n,.string v.s,.slice ad args.length ac] 132)).alloc (.cells #[.string ⟨#[44]⟩] 9)) [(wr.heap.size+1,#[.string ⟨#[44]⟩],9),(wr.heap.size,#[U fn,U op,.string (Y t),.string (Y n),U v.k,U v.n,.string v.s,.slice ad args.length ac],132)] yk):=by
    have:=WFr.alloc (WFr.alloc S.out (cs:=#[U fn,U op,.string (Y t),.string (Y n),U v.k,U v.n,.string v.s,.slice ad args.length ac]) (t:=132)) (cs:=#[.string ⟨#[44]⟩]) (t:=9);exact Zh
   refine z79 ?_;intro w2 S2;have HI:Hid (pkE.In (·<base) w2 _ _):=pkE.move (fun b hb hq=>⟨hq,by
    have hlt:b<w.heap.size:=vw hq HE.out.hi;rw[(S2.out.old H.out).block b hlt acw,(S.out.old H.out).block b hlt acw]⟩) HIN.out
   have F:=S2.out.tail.facts;refine z25 ?_;clear F;intro F;clear x0 x1 x2 x3 x4 x5 x6 x7 S Sc HIN;exact z56
  ·exact z41
theorem each95_any (f:Ex->List Bytes) (l:List Ex) (v:Value) (w:World) (hv:RSl exE (·<base) w v l) (h:Wrt base w wb xs) (he:Env base w) (hl:l.length<=1000000) (hn:xs.length+(eachP f l).length+10<=1000000000) (HG:Hid (∀W zs a cs,a∈l->exE.In (·<base) W a cs->Wrt base W wb zs->Env base W->zs.length+(f a).length+10<=1000000000->Calls prog 32 #[.pointer (some ⟨wb,0,none⟩),exE.val cs] W (Puts base wb W (zs++f a)))):Calls prog 95 #[.pointer (some ⟨wb,0,none⟩),v,.func (.func 32) #[.pointer (some ⟨wb,0,none⟩)] #[]] w (Puts base wb w (xs++eachP f l)):=by
 refine z277 ?_;intro H HE;skip;have HN:=tm hn;obtain⟨a0,cap0,rfl⟩:=hv.slice;have HV:=tm hv;have hcall:∀args w,(callFunc 32 args).run prog w=.ok (.enter 32 args) w:=enters_of func32 acz rfl;clear h he hv hn;go_enter func95,ntmps95;go_wp2_with fail;go_loopw [6,7,10] (fun _ _ i wr=>∃k:Nat,k<=l.length/\i=U k/\Hid (WFr base wb w wr [] (xs++eachP f (l.take k)))) (fun _ _ i _=>l.length - (intOf i).toNat)
 case atStart=>exact⟨0,by omega,rfl,by show WFr _ _ _ _ _ _;simpa[eachP]using WFr.start H.out⟩
 case round=>
  obtain⟨k,hk,rfl,S⟩:=hrel;by_cases hlt:k<l.length
  ·refine qh ?_;intro a hx;have hv1:RSl exE (·<base) wr (.slice a0 l.length cap0) l:=rSl_move acy (fun b hb hq=>⟨hq,(S.out.old H.out).block b hb acw⟩) HV.out;obtain⟨b,o,cap,cs,hbo,hin,hat⟩:=hv1.at hx;injection hbo with e1 _ e2;subst e1;subst e2;refine Rh ?_;intro hst hle HST;have HIN:Hid (exE.In (·<base) wr a cs):=hin;refine Kb ?_;clear HST hle;intro HM q hq hqi hwl hn2 fa hfa HST hle;have C:Hid (∀W,WFr base wb w W [] (xs++eachP f (l.take k)++whenP q [[44]])->exE.In (·<base) W a cs->Calls prog 32 #[.pointer (some ⟨wb,0,none⟩),exE.val cs] W (Puts base wb W (xs++eachP f (l.take k)++whenP q [[44]]++fa))):=M4;clear hfa HM hst;have hin0:=hin;obtain⟨op,t,n,v,args⟩:=a;obtain⟨ad0,acs,rfl,⟨ad,ac,rfl,_⟩,_⟩:=hin;refine fu ?_;intro x0 x1 x2 x3 x4 x5 x6;simp only[show exE.k=7 from rfl,u0]at x0 x1 x2 x3 x4 x5 x6;change Hid (∀W,WFr base wb w W [] (xs++eachP f (l.take k)++whenP q [[44]])->exE.In (·<base) W _ _->Calls prog 32 #[.pointer (some ⟨wb,0,none⟩),.agg #[.int .i64 op,.string ⟨t.toArray⟩,.string ⟨n.toArray⟩,.int .i64 v.k,.int .i64 v.n,.string v.s,.slice ad args.length ac]] W (Puts base wb W (xs++eachP f (l.take k)++whenP q [[44]]++fa)))at C;clear hx hat hv1 hin0;generalize hyk:xs++eachP f (l.take k)=yk at *;have hyl:yk.length=xs.length+(eachP f (l.take k)).length:=by rw[<- hyk,ua]
   go_wp2_with fail;have Sc:Hid (WFr base wb w ((wr.alloc (.cells #[U op,.string (Y t),.string (Y n),U v.k,U v.n,.string v.s,.slice ad args.length ac] 44)).alloc (.cells #[.string ⟨#[44]⟩] 9)) [(wr.heap.size+1,#[.string ⟨#[44]⟩],9),(wr.heap.size,#[U op,.string (Y t),.string (Y n),U v.k,U v.n,.string v.s,.slice ad args.length ac],44)] yk):=by
    have:=WFr.alloc (WFr.alloc S.out (cs:=#[U op,.string (Y t),.string (Y n),U v.k,U v.n,.string v.s,.slice ad args.length ac]) (t:=44)) (cs:=#[.string ⟨#[44]⟩]) (t:=9);exact Zh
   refine z79 ?_;intro w2 S2;have HI:Hid (exE.In (·<base) w2 _ _):=exE.move (fun b hb hq=>⟨hq,by
    have hlt:b<w.heap.size:=vw hq HE.out.hi;rw[(S2.out.old H.out).block b hlt acw,(S.out.old H.out).block b hlt acw]⟩) HIN.out
   have F:=S2.out.tail.facts;refine z25 ?_;clear F;intro F;clear x0 x1 x2 x3 x4 x5 x6 S Sc HIN;exact z56
  ·exact z41
theorem each96_any (qb:Nat) (f:Srt->List Bytes) (l:List Srt) (v:Value) (w:World) (hv:RSl srtE (·<base) w v l) (h:Wrt base w wb xs) (he:Env base w) (hq:QAt wb qb w) (hl:l.length<=1000000) (hn:xs.length+(eachP f l).length+10<=1000000000) (HG:Hid (∀W zs a cs,a∈l->srtE.In (·<base) W a cs->Wrt base W wb zs->Env base W->QAt wb qb W->zs.length+(f a).length+10<=1000000000->Calls prog 97 #[srtE.val cs,.pointer (some ⟨qb,0,none⟩)] W (Puts base wb W (zs++f a)))):Calls prog 96 #[.pointer (some ⟨wb,0,none⟩),v,.func (.func 97) #[] #[.pointer (some ⟨qb,0,none⟩)]] w (Puts base wb w (xs++eachP f l)):=by
 refine z277 ?_;intro H HE;have HQ:=tm hq;have HN:=tm hn;obtain⟨a0,cap0,rfl⟩:=hv.slice;have HV:=tm hv;have hcall:∀args w,(callFunc 97 args).run prog w=.ok (.enter 97 args) w:=enters_of func97 acz rfl;clear h he hv hn hq;go_enter func96,ntmps96;go_wp2_with fail;go_loopw [6,7,10] (fun _ _ i wr=>∃k:Nat,k<=l.length/\i=U k/\Hid (WFr base wb w wr [] (xs++eachP f (l.take k)))) (fun _ _ i _=>l.length - (intOf i).toNat)
 case atStart=>exact⟨0,by omega,rfl,by show WFr _ _ _ _ _ _;simpa[eachP]using WFr.start H.out⟩
 case round=>
  obtain⟨k,hk,rfl,S⟩:=hrel;by_cases hlt:k<l.length
  ·refine qh ?_;intro a hx;have hv1:RSl srtE (·<base) wr (.slice a0 l.length cap0) l:=rSl_move acy (fun b hb hq=>⟨hq,(S.out.old H.out).block b hb acw⟩) HV.out;obtain⟨b,o,cap,cs,hbo,hin,hat⟩:=hv1.at hx;injection hbo with e1 _ e2;subst e1;subst e2;refine Rh ?_;intro hst hle HST;have HIN:Hid (srtE.In (·<base) wr a cs):=hin;refine Kb ?_;clear HST hle;intro HM q hq hqi hwl hn2 fa hfa HST hle;have C:Hid (∀W,WFr base wb w W [] (xs++eachP f (l.take k)++whenP q [[44]])->srtE.In (·<base) W a cs->Calls prog 97 #[srtE.val cs,.pointer (some ⟨qb,0,none⟩)] W (Puts base wb W (xs++eachP f (l.take k)++whenP q [[44]]++fa))):=qu;clear hfa HM hst;have h1:cs=[U a.place,.bool a.down]:=hin;subst h1;have x0:=hat 0 _ rfl;have x1:=hat 1 _ rfl;simp only[show srtE.k=2 from rfl,u0]at x0 x1;change Hid (∀W,WFr base wb w W [] (xs++eachP f (l.take k)++whenP q [[44]])->srtE.In (·<base) W _ _->Calls prog 97 #[.agg #[.int .i64 a.place,.bool a.down],.pointer (some ⟨qb,0,none⟩)] W (Puts base wb W (xs++eachP f (l.take k)++whenP q [[44]]++fa)))at C;clear hx hat hv1;generalize hyk:xs++eachP f (l.take k)=yk at *;have hyl:yk.length=xs.length+(eachP f (l.take k)).length:=by rw[<- hyk,ua]
   go_wp2_with fail;have Sc:Hid (WFr base wb w ((wr.alloc (.cells #[U a.place,.bool a.down] 162)).alloc (.cells #[.string ⟨#[44]⟩] 9)) [(wr.heap.size+1,#[.string ⟨#[44]⟩],9),(wr.heap.size,#[U a.place,.bool a.down],162)] yk):=by
    have:=WFr.alloc (WFr.alloc S.out (cs:=#[U a.place,.bool a.down]) (t:=162)) (cs:=#[.string ⟨#[44]⟩]) (t:=9);exact Zh
   refine z79 ?_;intro w2 S2;have HI:Hid (srtE.In (·<base) w2 _ _):=srtE.move (fun b hb hq=>⟨hq,by
    have hlt:b<w.heap.size:=vw hq HE.out.hi;rw[(S2.out.old H.out).block b hlt acw,(S.out.old H.out).block b hlt acw]⟩) HIN.out
   have F:=S2.out.tail.facts;refine z25 ?_;clear F;intro F;clear x0 x1 S Sc HIN;exact z56
  ·exact z41
end
variable {base wb:Nat} {w0 w w' w2:World} {L:List Blk} {xs ys zs:List Bytes}
theorem Jm (c:Col) (hk:c.kinded=true) (w:World) (h:Wrt base w wb xs) (he:Env base w) (hn:xs.length+(colP c).length+10<=1000000000):Calls prog 24 #[.pointer (some ⟨wb,0,none⟩),.agg #[.string ⟨c.name.toArray⟩,.int .i64 c.kind,.bool c.null]] w (Puts base wb w (xs++colP c)):=by
 have hk2:c.kind=1\/c.kind=2\/c.kind=3:=by
  simp only[Col.kinded,tr,uk]at hk;omega
 obtain⟨nm,kd,nl⟩:=c;simp only at hk2 ⊢;have hP:Hid (colP ⟨nm,kd,nl⟩=[nm,kindP kd]++whenP (!nl) [[110,111,116],[110,117,108,108]]):=rfl;rw[hP.out]at hn ⊢;simp only[ua,tw,tx]at hn;refine z277 ?_;intro H HE;have S:Hid (WFr base wb w (w.alloc (.cells #[.string (Y nm),U kd,.bool nl] 37)) [(w.heap.size,#[.string (Y nm),U kd,.bool nl],37)] xs):=WFr.alloc (WFr.start h);clear hk h he hP;rcases hk2 with rfl|rfl|rfl
 all_goals
  have F:=S.out.st.factsG
  simp only[St.FactsG,cellFactsG,uo]at F
  go_enter func24,ntmps24
  go_wp2_with fail
  refine wp_region_mixed 9 [(0,false),(1,false),(2,false),(4,false),(5,false),(3,true),(6,false),(7,true),(8,true)] acz acz ?_
  repeat(refine wpM_mild rfl (fun K hK=>?_);go_simp;first|(refine hK _ ?_;clear hK K)|(apply Exists.intro;refine⟨fun _=>?_,hK _ ?_⟩;(fail);clear hK K))
  refine B9 rfl ?_
  intro w2 hb hb1
  replace S:=tm (S.out.kept hb)
  have HB:=tm hb1
  clear hb hb1 F
  go_wp2_with fail
  refine⟨HB.out.alloc HB.out.size _,?_⟩
  have Sb:=tm (WFr.laid S.out (o:=.cells #[eS,.string ⟨#[105,110,116]⟩,.string ⟨#[116,101,120,116]⟩,.string ⟨#[98,111,111,108]⟩] 9))
  clear HB
  repeat(refine wpM_mild rfl (fun K hK=>?_);go_simp;first|(refine hK _ ?_;clear hK K)|(apply Exists.intro;refine⟨fun _=>?_,hK _ ?_⟩;(fail);clear hK K))
  refine B9 rfl ?_
  intro w3 hb hb1
  replace S:=tm (Sb.out.kept hb)
  have HB:=tm hb1
  have y:w3.cell? ⟨w2.heap.size,1,none⟩=some (.string ⟨#[105,110,116]⟩):=hb.cell_kept ai
  have y2:w3.cell? ⟨w2.heap.size,2,none⟩=some (.string ⟨#[116,101,120,116]⟩):=hb.cell_kept ai
  have y3:w3.cell? ⟨w2.heap.size,3,none⟩=some (.string ⟨#[98,111,111,108]⟩):=hb.cell_kept ai
  clear hb hb1 Sb
  go_wp2_with fail
  refine⟨HB.out,B9 rfl ?_⟩
  intro w4 hb hb1
  replace S:=tm (S.out.kept hb)
  replace HB:=tm hb1
  clear hb hb1 y y2 y3
  go_wp2_with fail
  refine⟨HB.out.alloc HB.out.size _,wpM_tail ?_⟩
  intro w5 hb _
  simp only[vo,vz]
  replace S:=tm ((WFr.alloc S.out).kept hb)
  clear hb HB
  go_wp2_with fail
  refine S.out.call (put_any [nm,_] _ _ S.out.wrt (S.out.env H.out HE.out).hi (slAt_parts (S.out.blk 0 rfl) rfl rfl acy) acx (by simp;omega)) ?_
  clear S
  intro w6 S
  have F:=fx_ S.out.tail.facts
  go_wp2_with fail
  refine(WFr.alloc S.out).call (when_any (!nl) [[110,111,116],[110,117,108,108]] _ _ (WFr.alloc S.out).wrt ((WFr.alloc S.out).env H.out HE.out).hi (slAt_parts ((WFr.alloc S.out).blk 0 rfl) rfl rfl acy) acx (by simp;omega)) ?_
  intro w7 S
  go_wp2_with fail
  go_returns
  have hd:=S.out.done
  simp only[uv,tz,uc]at hd
  exact hd
theorem Xv (p:Pk) (cs:List Value) (hk:p.picked=true) (w:World) (hin:pkE.In (·<base) w p cs) (h:Wrt base w wb xs) (he:Env base w) (hn:xs.length+(itemP p).length+10<=1000000000):Calls prog 94 #[.pointer (some ⟨wb,0,none⟩),.agg cs.toArray] w (Puts base wb w (xs++itemP p)):=by
 have hk2:p.fn=1\/((p.fn=0\/p.fn=2\/p.fn=3\/p.fn=4)/\p.arg.formed=true):=by
  unfold Pk.picked at hk;split at hk
  ·exact .inl (by assumption)
  ·simp only[tr,uk,Ex.good]at hk;exact .inr ⟨by omega,hk.2.2⟩
 obtain⟨c0,rfl,hin⟩:=hin;have C:Hid (p.arg.formed=true->∀W zs,Turn (base≤·) w W->Wrt base W wb zs->Env base W->zs.length+(exPr p.arg 0).length+10<=1000000000->Calls prog 32 #[.pointer (some ⟨wb,0,none⟩),.agg c0.toArray] W (Puts base wb W (zs++exPr p.arg 0))):=
  fun hf W zs ht hw hE hl=>anyW_any p.arg c0 W (hin.turned ht (fun b hb hk=>acw)) hf hw hE hl
 obtain⟨a,c,rfl⟩:=Dn hin;have hP:Hid (itemP p=if p.fn=0 then exPr p.arg 0 else if p.fn=1 then[[99,111,117,110,116],[40],[42],[41]]else[if p.fn=2 then[115,117,109]else if p.fn=3 then[109,105,110]else[109,97,120],[40]]++exPr p.arg 0++[[41]]):=rfl;rw[hP.out]at hn ⊢;refine z277 ?_;intro H HE;have S:Hid (WFr base wb w (w.alloc (.cells #[U p.fn,U p.arg.op,.string (Y p.arg.table),.string (Y p.arg.name),U p.arg.val.k,U p.arg.val.n,.string p.arg.val.s,.slice a p.arg.args.length c] 132)) [(w.heap.size,#[U p.fn,U p.arg.op,.string (Y p.arg.table),.string (Y p.arg.name),U p.arg.val.k,U p.arg.val.n,.string p.arg.val.s,.slice a p.arg.args.length c],132)] xs):=WFr.alloc (WFr.start h);clear hk h he hP hin;show Calls prog 94 #[.pointer (some ⟨wb,0,none⟩),.agg #[.int .i64 p.fn,.int .i64 p.arg.op,.string ⟨p.arg.table.toArray⟩,.string ⟨p.arg.name.toArray⟩,.int .i64 p.arg.val.k,.int .i64 p.arg.val.n,.string p.arg.val.s,.slice a p.arg.args.length c]] w _;change Hid (p.arg.formed=true->∀W zs,Turn (base≤·) w W->Wrt base W wb zs->Env base W->zs.length+(exPr p.arg 0).length+10<=1000000000->Calls prog 32 #[.pointer (some ⟨wb,0,none⟩),.agg #[.int .i64 p.arg.op,.string ⟨p.arg.table.toArray⟩,.string ⟨p.arg.name.toArray⟩,.int .i64 p.arg.val.k,.int .i64 p.arg.val.n,.string p.arg.val.s,.slice a p.arg.args.length c]] W (Puts base wb W (zs++exPr p.arg 0)))at C;generalize exPr p.arg 0=ps at *;generalize p.arg.formed=fm at *
 generalize p.arg.op=op at *;generalize p.arg.table=t at *;generalize p.arg.name=n at *;generalize p.arg.val=v at *;generalize p.arg.args.length=m at *;generalize p.fn=fn at *;rcases hk2 with rfl|⟨hfn,rfl⟩
 ·rw[if_neg acy,if_pos rfl]at hn ⊢;simp only[tw,tx]at hn;refine z1076 ?_;intro F;clear C;go_enter func94,ntmps94;go_wp2_with fail;have Sc:Hid (WFr base wb w _ _ xs):=WFr.alloc S.out (cs:=#[.string ⟨#[99,111,117,110,116]⟩,.string ⟨#[40]⟩,.string ⟨#[42]⟩,.string ⟨#[41]⟩]) (t:=9);simp only[ug]at Sc;refine Sc.out.call (put_any [[99,111,117,110,116],[40],[42],[41]] _ _ Sc.out.wrt (Sc.out.env H.out HE.out).hi (slAt_parts (Sc.out.blk 0 rfl) rfl rfl acy) acx (by simp;omega)) ?_;intro w2 S;exact z134
 ·have CC:=tm (C.out rfl);clear C;rcases hfn with rfl|rfl|rfl|rfl
  ·rw[if_pos rfl]at hn ⊢;go_enter func94,ntmps94;go_wp2_with fail;refine S.out.call (CC.out _ _ (S.out.old H.out) S.out.wrt (S.out.env H.out HE.out) hn) ?_;intro w2 S;exact z134
  ·skip;rw[if_neg acy,if_neg acy]at hn ⊢;simp only[ua,tw,tx]at hn;refine z1076 ?_;intro F;go_enter func94,ntmps94;go_wp2_with fail;have Sc:Hid (WFr base wb w _ _ xs):=WFr.alloc (WFr.laid S.out (o:=.cells #[eS,eS,.string ⟨#[115,117,109]⟩,.string ⟨#[109,105,110]⟩,.string ⟨#[109,97,120]⟩] 9)) (cs:=#[.string ⟨#[115,117,109]⟩,.string ⟨#[40]⟩]) (t:=9);simp only[ug]at Sc;refine Sc.out.call (put_any [[115,117,109],[40]] _ _ Sc.out.wrt (Sc.out.env H.out HE.out).hi (slAt_parts (Sc.out.blk 0 rfl) rfl rfl acy) acx (by simp;omega)) ?_;exact z16
  ·skip;rw[if_neg acy,if_neg acy]at hn ⊢;simp only[ua,tw,tx]at hn;refine z1076 ?_;intro F;go_enter func94,ntmps94;go_wp2_with fail;have Sc:Hid (WFr base wb w _ _ xs):=WFr.alloc (WFr.laid S.out (o:=.cells #[eS,eS,.string ⟨#[115,117,109]⟩,.string ⟨#[109,105,110]⟩,.string ⟨#[109,97,120]⟩] 9)) (cs:=#[.string ⟨#[109,105,110]⟩,.string ⟨#[40]⟩]) (t:=9);simp only[ug]at Sc;refine Sc.out.call (put_any [[109,105,110],[40]] _ _ Sc.out.wrt (Sc.out.env H.out HE.out).hi (slAt_parts (Sc.out.blk 0 rfl) rfl rfl acy) acx (by simp;omega)) ?_;exact z16
  ·skip;rw[if_neg acy,if_neg acy]at hn ⊢;simp only[ua,tw,tx]at hn;refine z1076 ?_;intro F;go_enter func94,ntmps94;go_wp2_with fail;have Sc:Hid (WFr base wb w _ _ xs):=WFr.alloc (WFr.laid S.out (o:=.cells #[eS,eS,.string ⟨#[115,117,109]⟩,.string ⟨#[109,105,110]⟩,.string ⟨#[109,97,120]⟩] 9)) (cs:=#[.string ⟨#[109,97,120]⟩,.string ⟨#[40]⟩]) (t:=9);simp only[ug]at Sc;refine Sc.out.call (put_any [[109,97,120],[40]] _ _ Sc.out.wrt (Sc.out.env H.out HE.out).hi (slAt_parts (Sc.out.blk 0 rfl) rfl rfl acy) acx (by simp;omega)) ?_;clear S;exact z16
theorem Sv (qb:Nat) (s:Srt) (hs:s.okS=true) (w:World) (h:Wrt base w wb xs) (he:Env base w) (hq:QAt wb qb w) (hn:xs.length+(srtP s).length+10<=1000000000):Calls prog 97 #[.agg #[.int .i64 s.place,.bool s.down],.pointer (some ⟨qb,0,none⟩)] w (Puts base wb w (xs++srtP s)):=by
 have hb:0<=s.place/\s.place<=549755813887:=by simpa[Srt.okS]using hs
 have hP:Hid (srtP s=pNum s.place++whenP s.down [[100,101,115,99]]):=rfl;rw[hP.out]at hn ⊢;simp only[ua]at hn;obtain⟨pl,dn⟩:=s;simp only at *;have hpl:(pNum pl).length<=2:=by unfold pNum;split<;>simp
 refine z277 ?_;intro H HE;have HQ:=tm hq;have S:Hid (WFr base wb w (w.alloc (.cells #[U pl,.bool dn] 162)) [(w.heap.size,#[U pl,.bool dn],162)] xs):=WFr.alloc (WFr.start h);have y:=(HQ.out.went S.out.wr).cell;clear h he hq hs hP;go_enter func97,ntmps97;go_wp2_with fail;refine S.out.call (number38_any pl acw acw _ S.out.wrt (S.out.env H.out HE.out) acw) ?_;intro w2 S;have y:=(HQ.out.went S.out.wr).cell;refine z1076 ?_;intro F;go_wp2_with fail;refine(WFr.alloc S.out).call (when_any dn [[100,101,115,99]] _ _ (WFr.alloc S.out).wrt ((WFr.alloc S.out).env H.out HE.out).hi (slAt_parts ((WFr.alloc S.out).blk 0 rfl) rfl rfl acy) acx (by simp;omega)) ?_;intro w3 S;exact z204
theorem Xk (qb:Nat) (s:Bytes) (w:World) (h:Wrt base w wb xs) (he:Env base w) (hq:QAt wb qb w) (hn:xs.length+1+10<=1000000000):Calls prog 27 #[.string ⟨s.toArray⟩,.pointer (some ⟨qb,0,none⟩)] w (Puts base wb w (xs++[s])):=by
 refine z277 ?_;intro H HE;have S:=tm (WFr.start h);have y:=hq.cell;clear h he hq;go_enter func27,ntmps27;go_wp2_with fail;refine(WFr.alloc S.out).call (put_any [s] _ _ (WFr.alloc S.out).wrt ((WFr.alloc S.out).env H.out HE.out).hi (slAt_parts ((WFr.alloc S.out).blk 0 rfl) rfl rfl acy) acx (by simp;omega)) ?_;intro w3 S;exact z134
theorem rowW_any (qb:Nat) (r:List V) (v:Value) (hr:rowOk r=true) (w:World) (hv:RSl valE (·<base) w v r) (h:Wrt base w wb xs) (he:Env base w) (hq:QAt wb qb w) (hn:xs.length+(rowP r).length+10<=1000000000):Calls prog 29 #[v,.pointer (some ⟨qb,0,none⟩)] w (Puts base wb w (xs++rowP r)):=by
 have hP:Hid (rowP r=[[40]]++eachP pVal r++[[41]]):=rfl;rw[hP.out]at hn ⊢;simp only[ua,tw,tx]at hn;have hall:r.length<=1000000/\∀x∈r,x.right=true:=by
  unfold rowOk allR at hr;simp only[tr,uk,vg]at hr;exact⟨by omega,hr.2⟩
 refine z277 ?_;intro H HE;have HQ:=tm hq;have HV:=tm hv;have HA:=tm hall;obtain⟨a,c,rfl⟩:=hv.slice;have S:=tm (WFr.start h);have y:=hq.cell;refine z125 ?_;intro hmf;clear h he hq hv hr hP hall;go_enter func29,ntmps29;go_wp2_with fail;refine(WFr.alloc S.out).call (put_any [[40]] _ _ (WFr.alloc S.out).wrt ((WFr.alloc S.out).env H.out HE.out).hi (slAt_parts ((WFr.alloc S.out).blk 0 rfl) rfl rfl acy) acx (by simp;omega)) ?_;clear S;intro w2 S;have y:=(HQ.out.went S.out.wr).cell;go_wp2_with fail;refine S.out.call (Ue pVal r _ w2 (rSl_move acy (fun b hb hq=>⟨hq,(S.out.old H.out).block b hb acw⟩) HV.out) S.out.wrt (S.out.env H.out HE.out) HA.out.1 (by simp;omega) (fun W zs a cs ha hin hw hE hl=>by
  have e:cs=[U a.k,U a.n,.string a.s]:=hin;subst e;exact Iu a (HA.out.2 a ha) W hw hE acw)) ?_
 clear S;intro w3 S;have y:=(HQ.out.went S.out.wr).cell;go_wp2_with fail;refine(WFr.alloc S.out).call (put_any [[41]] _ _ (WFr.alloc S.out).wrt ((WFr.alloc S.out).env H.out HE.out).hi (slAt_parts ((WFr.alloc S.out).blk 0 rfl) rfl rfl acy) acx (by simp;omega)) ?_;intro w4 S;go_wp2_with fail;go_returns;have hd:=S.out.done;simp only[uv,tz,uc]at hd ⊢;exact hd
end Go.Proofs.YtimoefagohifaaaGreatDoor
