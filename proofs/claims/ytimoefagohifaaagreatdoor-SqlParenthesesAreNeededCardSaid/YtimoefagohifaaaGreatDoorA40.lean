/- Laws that the last part needs. No condition. -/
import Derived.Test.YtimoefagohifaaaGreatDoorA14
set_option maxHeartbeats 8000000
set_option maxRecDepth 100000
namespace Go.Proofs.YtimoefagohifaaaGreatDoor
open Go.RowKit Go.Sort Tryz
theorem Cl {α:Type} {l m:List α} {k:Nat} {a:α} (ht:l.take k=m.take k) (h1:l[k]?=some a) (h2:m[k]?=some a):l.take (k+1)=m.take (k+1):=by
 obtain⟨k1,e⟩:=uu.1 h1;obtain⟨k2,e2⟩:=uu.1 h2;rw[yd k1,yd k2,ht,e,e2]
theorem Ig {α:Type} {l m:List α} {k:Nat} {a b:α} (h1:l[k]?=some a) (h2:m[k]?=some b) (hne:a≠b):l≠m:=by
 rintro rfl;rw[h1]at h2;exact hne (xt h2)
theorem ne_of_len {α:Type} {l m:List α} (h:l.length≠m.length):l≠m:=fun e=>h (by rw[e])
theorem He (Q R:Nat->Prop) (l1 l2:List Bytes) (v1 v2:Value) (w:World) (h1:RSl strE Q w v1 l1) (h2:RSl strE R w v2 l2) (hl:l1.length<=4611686018427387904):Calls prog 57 #[v1,v2] w (Says (.bool (decide (l1=l2))) w):=by
 have HV:=tm h1;have HV2:=tm h2;obtain⟨a,c,rfl⟩:=h1.slice;obtain⟨a,c,rfl⟩:=h2.slice;clear h1 h2;generalize hbb:decide (l1=l2)=bb;have HBB:=tm hbb;clear hbb;by_cases hn:l1.length=l2.length
 case neg=>
  have hni:((l1.length:Int)==(l2.length:Int))=false:=by rw[us];omega
  obtain rfl:bb=false:=by rw[<- HBB.out];exact vm (ne_of_len hn)
  go_enter func57,ntmps57;exact U5
 rw[<- hn]at HV2 ⊢;have HN:=tm hn;clear hn;go_enter func57,ntmps57;go_wp2_with fail;go_loopw [5] (fun i wr=>∃k:Nat,k<=l1.length/\i=U k/\Hid (l1.take k=l2.take k)/\Hid (Below w.heap.size w wr)) (fun i _=>l1.length - (intOf i).toNat)
 case atStart=>exact⟨0,by omega,rfl,rfl,uj _ _⟩
 case round=>
  obtain⟨k,hk,rfl,HT,HB⟩:=hrel;by_cases hlt:k<l1.length
  ·refine z87 ?_;intro x hx y hy;obtain⟨b,o,cp,cs,hb,hc,hatx⟩:=(HV.out.kept acy HB.out).at hx;obtain⟨b,o,cp,cs2,hb2,hc2,haty⟩:=(HV2.out.kept acy HB.out).at hy;injection hb with e1 e3 e2;subst e1 e2;clear e3;injection hb2 with e1 e3 e2;subst e1 e2;clear e3;have e:cs=[.string (Y x)]:=hc;subst e;have e:cs2=[.string (Y y)]:=hc2;subst e;have x0:=ud (hatx 0 _ rfl);have y0:=ud (haty 0 _ rfl);simp only[show strE.k=1 from rfl,u0,aac]at x0 y0;have hki:(k:Int)<(l1.length:Int):=acw;have HX:=tm hx;have HY:=tm hy;clear hatx haty hc hc2 hx hy;by_cases hxy:x=y
   ·subst hxy;go_wp2_with fail;refine wp_region_mixed 9 [(0,false),(1,false),(2,false),(3,false),(4,false),(5,false),(6,false),(7,false),(8,false)] acz acz ?_;refine z1053 ?_;refine Ba ?_;intro w3 hb _;have HB3:=tm (HB.out.step hb);have HT3:Hid (l1.take (k+1)=l2.take (k+1)):=Cl HT.out HX.out HY.out;clear hb x0 y0 HT HB HX HY;exact agv
   ·obtain rfl:bb=false:=by rw[<- HBB.out];exact vm (Ig HX.out HY.out hxy)
    have hne:(x==y)=false:=by simpa using hxy
    go_wp2_with fail;refine wp_region_mixed 9 [(0,false),(1,false),(2,false),(3,false),(4,false),(5,false),(6,false),(7,false),(8,false)] acz acz ?_;refine z1053 ?_;refine Ba ?_;intro w3 hb _;have HB3:=tm (HB.out.step hb);clear hb x0 y0 HT HB HX HY;exact z246
  ·exact z1141
theorem sameRow_any (Q R:Nat->Prop) (l1 l2:List V) (v1 v2:Value) (w:World) (h1:RSl valE Q w v1 l1) (h2:RSl valE R w v2 l2) (hl:l1.length<=4611686018427387904):Calls prog 142 #[v1,v2] w (Says (.bool (decide (l1=l2))) w):=by
 have HV:=tm h1;have HV2:=tm h2;obtain⟨a,c,rfl⟩:=h1.slice;obtain⟨a,c,rfl⟩:=h2.slice;clear h1 h2;generalize hbb:decide (l1=l2)=bb;have HBB:=tm hbb;clear hbb;by_cases hn:l1.length=l2.length
 case neg=>
  have hni:((l1.length:Int)==(l2.length:Int))=false:=by rw[us];omega
  obtain rfl:bb=false:=by rw[<- HBB.out];exact vm (ne_of_len hn)
  go_enter func142,ntmps142;exact U5
 rw[<- hn]at HV2 ⊢;have HN:=tm hn;clear hn;go_enter func142,ntmps142;go_wp2_with fail;go_loopw [5] (fun i wr=>∃k:Nat,k<=l1.length/\i=U k/\Hid (l1.take k=l2.take k)/\Hid (Below w.heap.size w wr)) (fun i _=>l1.length - (intOf i).toNat)
 case atStart=>exact⟨0,by omega,rfl,rfl,uj _ _⟩
 case round=>
  obtain⟨k,hk,rfl,HT,HB⟩:=hrel;by_cases hlt:k<l1.length
  ·refine z87 ?_;intro x hx y hy;obtain⟨b,o,cp,cs,hb,hc,hatx⟩:=(HV.out.kept acy HB.out).at hx;obtain⟨b,o,cp,cs2,hb2,hc2,haty⟩:=(HV2.out.kept acy HB.out).at hy;injection hb with e1 e3 e2;subst e1 e2;clear e3;injection hb2 with e1 e3 e2;subst e1 e2;clear e3;have e:cs=[U x.k,U x.n,.string x.s]:=hc;subst e;have e:cs2=[U y.k,U y.n,.string y.s]:=hc2;subst e;have x0:=ud (hatx 0 _ rfl);have x1:=ud (hatx 1 _ rfl);have x2:=ud (hatx 2 _ rfl);have y0:=ud (haty 0 _ rfl);have y1:=ud (haty 1 _ rfl);have y2:=ud (haty 2 _ rfl);simp only[show valE.k=3 from rfl,u0]at x0 x1 x2 y0 y1 y2;have hki:(k:Int)<(l1.length:Int):=acw;have HX:=tm hx;have HY:=tm hy;clear hatx haty hc hc2 hx hy;by_cases hxy:x=y
   ·subst hxy;go_wp2_with fail;refine wp_region_mixed 9 [(0,false),(1,false),(2,false),(3,false),(4,false),(5,false),(6,false),(7,false),(8,false)] acz acz ?_;refine z1053 ?_;refine Ba ?_;intro w3 hb _;have HB3:=tm (HB.out.step hb);have HT3:Hid (l1.take (k+1)=l2.take (k+1)):=Cl HT.out HX.out HY.out;clear hb x0 x1 x2 y0 y1 y2 HT HB HX HY;exact agv
   ·obtain rfl:bb=false:=by rw[<- HBB.out];exact vm (Ig HX.out HY.out hxy)
    have hcase:¬x.k=y.k\/(x.k=y.k/\¬x.n=y.n)\/(x.k=y.k/\x.n=y.n/\¬x.s.toList=y.s.toList):=by
     by_cases e1:x.k=y.k
     ·by_cases e2:x.n=y.n
      ·exact .inr (.inr ⟨e1,e2,fun e3=>hxy ((V.ext_iff x y).2 ⟨e1,e2,(Dy _ _).1 e3⟩)⟩)
      ·exact .inr (.inl ⟨e1,e2⟩)
     ·exact .inl e1
    clear HX HY HBB HT;rcases hcase with e1|⟨e1,e2⟩|⟨e1,e2,e3⟩
    all_goals
     go_wp2_with fail
     refine wp_region_mixed 9 [(0,false),(1,false),(2,false),(3,false),(4,false),(5,false),(6,false),(7,false),(8,false)] acz acz ?_
     repeat(refine wpM_mild rfl (fun K hK=>?_);go_simp;first|(refine hK _ ?_;clear hK K)|(apply Exists.intro;refine⟨fun _=>?_,hK _ ?_⟩;(fail);clear hK K))
     refine Ba ?_
     intro w3 hb _
     have HB3:=tm (HB.out.step hb)
     clear hb x0 x1 x2 y0 y1 y2 HB
     go_wp2_with fail
     go_returns
     exact⟨rfl,HB3.out⟩
  ·exact z1141
theorem Ak {b:Bool} {p:Prop} (h:b=true↔p) (hp:¬p):b=false:=by
 cases b with
 | false=>rfl
 | true=>exact absurd (h.1 rfl) hp
theorem Nk (Q R:Nat->Prop) (l1 l2:List (List V)) (v1 v2:Value) (w:World) (h1:RSl rowE Q w v1 l1) (h2:RSl rowE R w v2 l2) (hl:l1.length<=4611686018427387904) (hr:∀r∈l1,r.length<=4611686018427387904) (bb:Bool) (hbb:bb=true↔l1=l2):Calls prog 58 #[v1,v2] w (Says (.bool bb) w):=by
 have HV:=tm h1;have HV2:=tm h2;obtain⟨a,c,rfl⟩:=h1.slice;obtain⟨a,c,rfl⟩:=h2.slice;have HBB:=tm hbb;have HL:=tm hr;clear h1 h2 hbb hr;by_cases hn:l1.length=l2.length
 case neg=>
  have hni:((l1.length:Int)==(l2.length:Int))=false:=by rw[us];omega
  obtain rfl:bb=false:=Ak HBB.out (ne_of_len hn);go_enter func58,ntmps58;exact U5
 rw[<- hn]at HV2 ⊢;have HN:=tm hn;clear hn;go_enter func58,ntmps58;go_wp2_with fail;go_loopw [5] (fun i wr=>∃k:Nat,k<=l1.length/\i=U k/\Hid (l1.take k=l2.take k)/\Hid (Below w.heap.size w wr)) (fun i _=>l1.length - (intOf i).toNat)
 case atStart=>exact⟨0,by omega,rfl,rfl,uj _ _⟩
 case round=>
  obtain⟨k,hk,rfl,HT,HB⟩:=hrel;by_cases hlt:k<l1.length
  ·refine z87 ?_;intro x hx y hy;obtain⟨b,o,cp,cs1,hb,hc,hatx⟩:=(HV.out.kept acy HB.out).at hx;obtain⟨b,o,cp,cs2,hb2,hc2,haty⟩:=(HV2.out.kept acy HB.out).at hy;injection hb with e1 e3 e2;subst e1 e2;clear e3;injection hb2 with e1 e3 e2;subst e1 e2;clear e3;obtain⟨r1,rfl,hr1⟩:=(show ∃v,cs1=[v]/\RSl valE Q wr v x from hc);obtain⟨s,d1,rfl⟩:=hr1.slice;have x0:=ud (hatx 0 _ rfl);simp only[show rowE.k=1 from rfl,u0,aac]at x0;obtain⟨r2,rfl,hr2⟩:=(show ∃v,cs2=[v]/\RSl valE R wr v y from hc2);obtain⟨s2,d2,rfl⟩:=hr2.slice;have y0:=ud (haty 0 _ rfl);simp only[show rowE.k=1 from rfl,u0,aac]at y0;have HR:=tm hr1;have HR2:=tm hr2;have hxl:x.length<=4611686018427387904:=HL.out x (uq hx);clear hr1 hr2;have hki:(k:Int)<(l1.length:Int):=acw;have HX:=tm hx;have HY:=tm hy;by_cases hxy:x=y
   ·subst hxy;have CC:Hid (∀(d:Nat) (os:Array Obj),Calls prog 142 #[.slice s x.length d1,.slice s2 x.length d2] (grow (redrawn wr d) os) fun e w'=>e=.returned (.bool true)/\Laid (grow (redrawn wr d) os) w'):=fun d os=>by
     have:=sameRow_any Q R x x _ _ _ (HR.out.kept acy (vt wr d os)) (HR2.out.kept acy (vt wr d os)) hxl;rw[vf rfl]at this;exact this
    clear hatx haty hc hc2 hx hy;go_wp2_with fail;refine wp_region_mixed 10 [(0,false),(1,false),(2,false),(3,false),(4,false),(5,false),(6,false),(7,false),(8,false),(9,false)] acz acz ?_;repeat(refine wpM_mild rfl (fun K hK=>?_);go_simp;first|(refine hK _ ?_;clear hK K)|(apply Exists.intro;refine⟨fun _=>?_,hK _ ?_⟩;(exact CC.out _ _);clear hK K))
    refine Ba ?_;intro w3 hb _;have HB3:=tm (HB.out.step hb);have HT3:Hid (l1.take (k+1)=l2.take (k+1)):=Cl HT.out HX.out HY.out;clear hb x0 y0 HT HB HX HY CC;exact agv
   ·obtain rfl:bb=false:=Ak HBB.out (Ig HX.out HY.out hxy);have CC:Hid (∀(d:Nat) (os:Array Obj),Calls prog 142 #[.slice s x.length d1,.slice s2 y.length d2] (grow (redrawn wr d) os) fun e w'=>e=.returned (.bool false)/\Laid (grow (redrawn wr d) os) w'):=fun d os=>by
     have:=sameRow_any Q R x y _ _ _ (HR.out.kept acy (vt wr d os)) (HR2.out.kept acy (vt wr d os)) hxl;rw[vm hxy]at this;exact this
    clear hatx haty hc hc2 hx hy;go_wp2_with fail;refine wp_region_mixed 10 [(0,false),(1,false),(2,false),(3,false),(4,false),(5,false),(6,false),(7,false),(8,false),(9,false)] acz acz ?_;repeat(refine wpM_mild rfl (fun K hK=>?_);go_simp;first|(refine hK _ ?_;clear hK K)|(apply Exists.intro;refine⟨fun _=>?_,hK _ ?_⟩;(exact CC.out _ _);clear hK K))
    refine Ba ?_;intro w3 hb _;have HB3:=tm (HB.out.step hb);clear hb x0 y0 HT HB HX HY CC;exact z246
  ·exact z1162
theorem exIn_cells3 {Q:Nat->Prop} {w:World} {e:Ex} {cs:List Value} (h:ExIn Q w e cs):∃a c,cs=[U e.op,.string (Y e.table),.string (Y e.name),U e.val.k,U e.val.n,.string e.val.s,.slice a e.args.length c]/\RSl exE Q w (.slice a e.args.length c) e.args:=by
 obtain⟨op,t,n,v,args⟩:=e;obtain⟨ad,acs,rfl,hs,hx⟩:=h;have key:∀(l:List Ex) (bcs:List Value),ExsIn Q w l bcs->LIn exE Q w l bcs:=by
  intro l
  induction l with
  | nil=>intro bcs h;exact h
  | cons e l ih=>rintro bcs ⟨c1,c2,rfl,k1,k2⟩;exact⟨c1,c2,rfl,k1,ih _ k2⟩
 obtain⟨a,c,rfl,hc⟩:=hs;exact⟨a,c,rfl,acs,⟨a,c,rfl,hc⟩,key _ _ hx⟩
theorem Kv (Q R:Nat->Prop) (l1 l2:List Ex) (v1 v2:Value) (w:World) (h1:RSl exE Q w v1 l1) (h2:RSl exE R w v2 l2) (hl:l1.length<=4611686018427387904) (IH:∀x∈l1,∀(y:Ex) (ds1 ds2:List Value) (W:World) (b:Bool),ExIn Q W x ds1->ExIn R W y ds2->(b=true↔x=y)->Calls prog 60 #[.agg ds1.toArray,.agg ds2.toArray] W (Says (.bool b) W)) (bb:Bool) (hbb:bb=true↔l1=l2):Calls prog 59 #[v1,v2] w (Says (.bool bb) w):=by
 have HV:=tm h1;have HV2:=tm h2;obtain⟨a,c,rfl⟩:=h1.slice;obtain⟨a,c,rfl⟩:=h2.slice;have HBB:=tm hbb;have HIH:=tm IH;clear h1 h2 hbb IH;by_cases hn:l1.length=l2.length
 case neg=>
  have hni:((l1.length:Int)==(l2.length:Int))=false:=by rw[us];omega
  obtain rfl:bb=false:=Ak HBB.out (ne_of_len hn);go_enter func59,ntmps59;exact U5
 rw[<- hn]at HV2 ⊢;have HN:=tm hn;clear hn;go_enter func59,ntmps59;go_wp2_with fail;go_loopw [5,6] (fun i _ wr=>∃k:Nat,k<=l1.length/\i=U k/\Hid (l1.take k=l2.take k)/\Hid (Below w.heap.size w wr)) (fun i _ _=>l1.length - (intOf i).toNat)
 case atStart=>exact⟨0,by omega,rfl,rfl,uj _ _⟩
 case round=>
  obtain⟨k,hk,rfl,HT,HB⟩:=hrel;by_cases hlt:k<l1.length
  ·refine z87 ?_;intro x hx y hy;obtain⟨b1,o,cp,cs,hb,hc,hatx⟩:=(HV.out.kept acy HB.out).at hx;obtain⟨b2,o,cp,cs2,hb2,hc2,haty⟩:=(HV2.out.kept acy HB.out).at hy;injection hb with e1 e3 e2;subst e1 e2;clear e3;injection hb2 with e1 e3 e2;subst e1 e2;clear e3;obtain⟨s1,d1,rfl,hr⟩:=exIn_cells3 (Q:=Q) (e:=x) (show ExIn Q wr x cs from hc);have x0:=ud (hatx 0 _ rfl);have x1:=ud (hatx 1 _ rfl);have x2:=ud (hatx 2 _ rfl);have x3:=ud (hatx 3 _ rfl);have x4:=ud (hatx 4 _ rfl);have x5:=ud (hatx 5 _ rfl);have x6:=ud (hatx 6 _ rfl);simp only[show exE.k=7 from rfl,u0]at x0 x1 x2 x3 x4 x5 x6;obtain⟨s2,d2,rfl,hr2⟩:=exIn_cells3 (Q:=R) (e:=y) (show ExIn R wr y cs2 from hc2);have y0:=ud (haty 0 _ rfl);have y1:=ud (haty 1 _ rfl);have y2:=ud (haty 2 _ rfl);have y3:=ud (haty 3 _ rfl);have y4:=ud (haty 4 _ rfl);have y5:=ud (haty 5 _ rfl);have y6:=ud (haty 6 _ rfl);simp only[show exE.k=7 from rfl,u0]at y0 y1 y2 y3 y4 y5 y6;have hki:(k:Int)<(l1.length:Int):=acw;have HX:=tm hx;have HY:=tm hy;by_cases hxy:x=y
   ·subst hxy;have CC:Hid (∀(d:Nat) (os:Array Obj),Calls prog 60 #[.agg #[.int .i64 x.op,.string ⟨x.table.toArray⟩,.string ⟨x.name.toArray⟩,.int .i64 x.val.k,.int .i64 x.val.n,.string x.val.s,.slice s1 x.args.length d1],.agg #[.int .i64 x.op,.string ⟨x.table.toArray⟩,.string ⟨x.name.toArray⟩,.int .i64 x.val.k,.int .i64 x.val.n,.string x.val.s,.slice s2 x.args.length d2]] (grow (redrawn wr d) os) fun e w'=>e=.returned (.bool true)/\Laid (grow (redrawn wr d) os) w'):=fun d os=>
     HIH.out x (uq hx) x _ _ _ true (exE.move (fun b hl k=>⟨k,(vt wr d os).block b hl⟩) hc) (exE.move (fun b hl k=>⟨k,(vt wr d os).block b hl⟩) hc2) ⟨fun _=>rfl,fun _=>rfl⟩
    clear hr hr2;clear hatx haty hc hc2 hx hy;go_wp2_with fail;refine wp_region_mixed 10 [(0,false),(1,false),(2,false),(3,false),(4,false),(5,false),(6,false),(7,false),(8,false),(9,false)] acz acz ?_;repeat(refine wpM_mild rfl (fun K hK=>?_);go_simp;first|(refine hK _ ?_;clear hK K)|(apply Exists.intro;refine⟨fun _=>?_,hK _ ?_⟩;(exact CC.out _ _);clear hK K))
    refine Ba ?_;intro w3 hb _;have HB3:=tm (HB.out.step hb);have HT3:Hid (l1.take (k+1)=l2.take (k+1)):=Cl HT.out HX.out HY.out;clear hb x0 x1 x2 x3 x4 x5 x6 y0 y1 y2 y3 y4 y5 y6 HT HB HX HY CC;exact agv
   ·obtain rfl:bb=false:=Ak HBB.out (Ig HX.out HY.out hxy);have CC:Hid (∀(d:Nat) (os:Array Obj),Calls prog 60 #[.agg #[.int .i64 x.op,.string ⟨x.table.toArray⟩,.string ⟨x.name.toArray⟩,.int .i64 x.val.k,.int .i64 x.val.n,.string x.val.s,.slice s1 x.args.length d1],.agg #[.int .i64 y.op,.string ⟨y.table.toArray⟩,.string ⟨y.name.toArray⟩,.int .i64 y.val.k,.int .i64 y.val.n,.string y.val.s,.slice s2 y.args.length d2]] (grow (redrawn wr d) os) fun e w'=>e=.returned (.bool false)/\Laid (grow (redrawn wr d) os) w'):=fun d os=>
     HIH.out x (uq hx) y _ _ _ false (exE.move (fun b hl k=>⟨k,(vt wr d os).block b hl⟩) hc) (exE.move (fun b hl k=>⟨k,(vt wr d os).block b hl⟩) hc2) ⟨fun h=>absurd h acy,fun h=>absurd h hxy⟩
    clear hr hr2;clear hatx haty hc hc2 hx hy;go_wp2_with fail;refine wp_region_mixed 10 [(0,false),(1,false),(2,false),(3,false),(4,false),(5,false),(6,false),(7,false),(8,false),(9,false)] acz acz ?_;repeat(refine wpM_mild rfl (fun K hK=>?_);go_simp;first|(refine hK _ ?_;clear hK K)|(apply Exists.intro;refine⟨fun _=>?_,hK _ ?_⟩;(exact CC.out _ _);clear hK K))
    refine Ba ?_;intro w3 hb _;have HB3:=tm (HB.out.step hb);clear hb x0 x1 x2 x3 x4 x5 x6 y0 y1 y2 y3 y4 y5 y6 HT HB HX HY CC;exact z246
  ·exact z1162
theorem Ex.eq_iff (x y:Ex):x=y↔x.op=y.op/\x.table=y.table/\x.name=y.name/\x.val=y.val/\x.args=y.args:=by
 cases x
 cases y;simp[Ex.op,Ex.table,Ex.name,Ex.val,Ex.args]
theorem O7 (Q R:Nat->Prop) (x y:Ex) (ds1 ds2:List Value) (w:World) (b:Bool) (h1:ExIn Q w x ds1) (h2:ExIn R w y ds2) (hb:b=true↔x=y) (IH:∀(W:World) (v1 v2:Value) (c:Bool),RSl exE Q W v1 x.args->RSl exE R W v2 y.args->(c=true↔x.args=y.args)->Calls prog 59 #[v1,v2] W (Says (.bool c) W)):Calls prog 60 #[.agg ds1.toArray,.agg ds2.toArray] w (Says (.bool b) w):=by
 obtain⟨s,d,rfl,hr⟩:=exIn_cells3 h1;obtain⟨s2,d2,rfl,hr2⟩:=exIn_cells3 h2;have HR:=tm hr;have HR2:=tm hr2;have HIH:=tm IH;have HBB:=tm hb;have heq:=Ex.eq_iff x y;clear h1 h2 hr hr2 IH hb;have hcase:¬x.op=y.op\/(x.op=y.op/\¬x.table=y.table)\/(x.op=y.op/\x.table=y.table/\¬x.name=y.name)\/(x.op=y.op/\x.table=y.table/\x.name=y.name/\¬x.val=y.val) \/
  (x.op=y.op/\x.table=y.table/\x.name=y.name/\x.val=y.val/\¬x.args.length=y.args.length)\/(x.op=y.op/\x.table=y.table/\x.name=y.name/\x.val=y.val/\x.args.length=y.args.length):=by
  by_cases e1:x.op=y.op<;>by_cases e2:x.table=y.table<;>by_cases e3:x.name=y.name<;>by_cases e4:x.val=y.val<;>by_cases e5:x.args.length=y.args.length<;>simp[*]
 obtain⟨op1,t,n,⟨k,m,z⟩,args1⟩:=x;obtain⟨op2,t2,n2,⟨k2,m2,z2⟩,args2⟩:=y;simp only[Ex.op,Ex.table,Ex.name,Ex.val,Ex.args]at *;show Calls prog 60 #[.agg #[.int .i64 op1,.string ⟨t.toArray⟩,.string ⟨n.toArray⟩,.int .i64 k,.int .i64 m,.string z,.slice s args1.length d],.agg #[.int .i64 op2,.string ⟨t2.toArray⟩,.string ⟨n2.toArray⟩,.int .i64 k2,.int .i64 m2,.string z2,.slice s2 args2.length d2]] w _;have HB:Hid (Below w.heap.size w ((w.alloc (.cells #[U op1,.string (Y t),.string (Y n),U k,U m,.string z,.slice s args1.length d] 44)).alloc (.cells #[U op2,.string (Y t2),.string (Y n2),U k2,U m2,.string z2,.slice s2 args2.length d2] 44))):=
  ((uj _ _).alloc (tu _) _).alloc acx _
 rcases hcase with e1|⟨rfl,e2⟩|⟨rfl,rfl,e3⟩|⟨rfl,rfl,rfl,e4⟩|⟨rfl,rfl,rfl,e4,e5⟩|⟨rfl,rfl,rfl,e4,e5⟩
 ·obtain rfl:b=false:=Ak HBB.out (fun h=>e1 (heq.1 h).1);exact ku
 ·obtain rfl:b=false:=Ak HBB.out (fun h=>e2 (heq.1 h).2.1);have f:(t==t2)=false:=by simpa using e2
  exact ku
 ·obtain rfl:b=false:=Ak HBB.out (fun h=>e3 (heq.1 h).2.2.1);have f:(n==n2)=false:=by simpa using e3
  exact ku
 ·obtain rfl:b=false:=Ak HBB.out (fun h=>e4 (heq.1 h).2.2.2.1);have hv:¬k=k2\/(k=k2/\¬m=m2)\/(k=k2/\m=m2/\¬z.toList=z2.toList):=by
   by_cases g1:k=k2
   ·by_cases g2:m=m2
    ·exact .inr (.inr ⟨g1,g2,fun g3=>e4 (by rw[g1,g2,(Dy _ _).1 g3])⟩)
    ·exact .inr (.inl ⟨g1,g2⟩)
   ·exact .inl g1
  clear heq e4;rcases hv with g1|⟨rfl,g2⟩|⟨rfl,rfl,g3⟩
  all_goals
   go_enter func60,ntmps60
   go_wp2_with fail
   go_returns
   exact⟨rfl,HB.out⟩
 ·obtain rfl:b=false:=Ak HBB.out (fun h=>e5 (by rw[(heq.1 h).2.2.2.2]));have f:((args1.length:Int)==(args2.length:Int))=false:=by rw[us];omega
  injection e4 with g1 g2 g3;subst g1 g2 g3;exact ku
 ·injection e4 with g1 g2 g3;subst g1 g2 g3;have CC:Hid (∀W,Below w.heap.size w W->Calls prog 59 #[.slice s args1.length d,.slice s2 args2.length d2] W (Says (.bool b) W)):=fun W hW=>
   HIH.out W _ _ b (HR.out.kept acy hW) (HR2.out.kept acy hW) (HBB.out.trans (heq.trans acx))
  clear heq;rw[<- e5]at CC HB ⊢;clear e5 HR HR2 HIH HBB;go_enter func60,ntmps60;go_wp2_with fail;refine tp (CC.out _ HB.out) ?_;rintro e w2 ⟨rfl,hb2⟩;go_wp2_with fail;go_returns;exact⟨rfl,HB.out.step hb2⟩
theorem Fh (Q R:Nat->Prop):∀x:Ex,(x.formed=true\/x=Ex.zero)->∀(y:Ex) (ds1 ds2:List Value) (w:World) (b:Bool),ExIn Q w x ds1->ExIn R w y ds2->(b=true↔x=y) -> Calls prog 60 #[.agg ds1.toArray,.agg ds2.toArray] w (Says (.bool b) w):=by
 refine Ex.ind fun op t n v args ih=>?_;intro hf y ds1 ds2 w b h h2 hb;have hargs:args.length<=4611686018427387904/\∀a∈args,a.formed=true:=by
  rcases hf with hf|hf
  ·simp only[Ex.formed,tr]at hf;refine⟨?_,fun a ha=>by rw[Jj]at hf;exact vg.1 hf.2 a ha⟩;have:=hf.1;simp only[nodeOk,tr,uk]at this;have h:=this.1.1.1.2;split at h
   ·omega
   ·split at h<;>omega
  ·unfold Ex.zero at hf;injection hf with _ _ _ _ e;subst e;simp
 exact O7 Q R _ y ds1 ds2 w b h h2 hb (fun W v1 v2 c k1 k2 hc=>Kv Q R args y.args v1 v2 W k1 k2 hargs.1 (fun a ha y' e1 e2 W' b' i1 i2 hb'=>ih a ha (.inl (hargs.2 a ha)) y' e1 e2 W' b' i1 i2 hb') c hc)
theorem Gd (Q R:Nat->Prop) (l1 l2:List Ex) (v1 v2:Value) (w:World) (h1:RSl exE Q w v1 l1) (h2:RSl exE R w v2 l2) (hl:l1.length<=4611686018427387904) (hf:∀x∈l1,x.formed=true) (b:Bool) (hb:b=true↔l1=l2):Calls prog 59 #[v1,v2] w (Says (.bool b) w):=
 Kv Q R l1 l2 v1 v2 w h1 h2 hl (fun x hx y e1 e2 W c i1 i2 hc=>Fh Q R x (.inl (hf x hx)) y e1 e2 W c i1 i2 hc) b hb
def Ex.ok (e:Ex):Prop:=e.formed=true\/e=Ex.zero
structure Sel.Nice (x:Sel):Prop where
 items:x.items.length<=4611686018427387904
 iarg:∀p∈x.items,p.arg.ok
 from_:x.from_.length<=4611686018427387904
 on:x.on.length<=4611686018427387904
 onf:∀e∈x.on,e.formed=true
 wh:x.where_.ok
 group:x.group.length<=4611686018427387904
 grf:∀e∈x.group,e.formed=true
 sort:x.sort.length<=4611686018427387904
theorem Cw (p:Prop):∃b:Bool,b=true↔p:=by
 by_cases h:p
 ·exact⟨true,fun _=>h,fun _=>rfl⟩
 ·exact⟨false,fun e=>absurd e acy,fun h2=>absurd h2 h⟩
theorem Ku (Q R:Nat->Prop) (x y:Sel) (v1 v2:Value) (w:World) (h1:RSelQ Q w x v1) (h2:RSelQ R w y v2) (hn:x.Nice) (bb:Bool) (hbb:bb=true↔x=y):Calls prog 61 #[v1,v2] w (Says (.bool bb) w):=by
 obtain⟨d1,items1,from1,on1,⟨op1,t1,n1,⟨k1,m,z⟩,args1⟩,group1,sort1,lim⟩:=x;obtain⟨d2,items2,from2,on2,⟨op2,t2,n2,⟨k2,m2,z2⟩,args2⟩,group2,sort2,lim2⟩:=y;obtain⟨ia,ic,fa,fc,oa,oc,wa,wc,ga,gc,sa,sc,rfl,hi,hf,ho,hw,hg,hs⟩:=h1;obtain⟨ia2,ic2,fa2,fc2,oa2,oc2,wa2,wc2,ga2,gc2,sa2,sc2,rfl,hi2,hf2,ho2,hw2,hg2,hs2⟩:=h2;rw[Sel.mk.injEq]at hbb;have HBB:=tm hbb;have HN:=tm hn;simp only[Ex.op,Ex.table,Ex.name,Ex.val,Ex.args]at hi hf ho hw hg hs hi2 hf2 ho2 hw2 hg2 hs2 ⊢;obtain⟨qf,hqf⟩:=Cw (from1=from2);obtain⟨qo,hqo⟩:=Cw (on1=on2);obtain⟨qw,hqw⟩:=Cw ((Ex.mk op1 t1 n1 ⟨k1,m,z⟩ args1)=(Ex.mk op2 t2 n2 ⟨k2,m2,z2⟩ args2));obtain⟨qg,hqg⟩:=Cw (group1=group2);have CF:Hid (∀W,Below w.heap.size w W->Calls prog 57 #[.slice fa from1.length fc,.slice fa2 from2.length fc2] W (Says (.bool qf) W)):=fun W hW=>by
  have:=He Q R from1 from2 _ _ W (hf.kept acy hW) (hf2.kept acy hW) hn.from_
  have e:decide (from1=from2)=qf:=by
   cases qf with
   | true=>exact vf (hqf.1 rfl)
   | false=>exact vm (fun h=>absurd (hqf.2 h) acy)
  rwa [e]at this
 have CO:Hid (∀W,Below w.heap.size w W->Calls prog 59 #[.slice oa on1.length oc,.slice oa2 on2.length oc2] W (Says (.bool qo) W)):=fun W hW=>Gd Q R on1 on2 _ _ W (ho.kept acy hW) (ho2.kept acy hW) hn.on hn.onf qo hqo;have CW:Hid (∀W,Below w.heap.size w W->Calls prog 60 #[.agg #[.int .i64 op1,.string ⟨t1.toArray⟩,.string ⟨n1.toArray⟩,.int .i64 k1,.int .i64 m,.string z,.slice wa args1.length wc],.agg #[.int .i64 op2,.string ⟨t2.toArray⟩,.string ⟨n2.toArray⟩,.int .i64 k2,.int .i64 m2,.string z2,.slice wa2 args2.length wc2]] W (Says (.bool qw) W)):=fun W hW=>
  Fh Q R _ hn.wh _ _ _ W qw (Bc (hw.kept hW)) (Bc (hw2.kept hW)) hqw
 have CG:Hid (∀W,Below w.heap.size w W->Calls prog 59 #[.slice ga group1.length gc,.slice ga2 group2.length gc2] W (Says (.bool qg) W)):=fun W hW=>Gd Q R group1 group2 _ _ W (hg.kept acy hW) (hg2.kept acy hW) hn.group hn.grf qg hqg;have HQ:Hid ((qf=true↔from1=from2)/\(qo=true↔on1=on2)/\(qw=true↔(Ex.mk op1 t1 n1 ⟨k1,m,z⟩ args1)=(Ex.mk op2 t2 n2 ⟨k2,m2,z2⟩ args2))/\(qg=true↔group1=group2)):=⟨hqf,hqo,hqw,hqg⟩;have HI:=tm hi;have HI2:=tm hi2;have HS:=tm hs;have HS2:=tm hs2;have hil:items1.length<=4611686018427387904:=hn.items;have hsl:sort1.length<=4611686018427387904:=hn.sort;have HB:Hid (Below w.heap.size w ((w.alloc (.cells #[.bool d1,.slice ia items1.length ic,.slice fa from1.length fc,.slice oa on1.length oc,.int .i64 op1,.string ⟨t1.toArray⟩,.string ⟨n1.toArray⟩,.int .i64 k1,.int .i64 m,.string z,.slice wa args1.length wc,.slice ga group1.length gc,.slice sa sort1.length sc,.int .i64 lim] 48)).alloc (.cells #[.bool d2,.slice ia2 items2.length ic2,.slice fa2 from2.length fc2,.slice oa2 on2.length oc2,.int .i64 op2,.string ⟨t2.toArray⟩,.string ⟨n2.toArray⟩,.int .i64 k2,.int .i64 m2,.string z2,.slice wa2 args2.length wc2,.slice ga2 group2.length gc2,.slice sa2 sort2.length sc2,.int .i64 lim2] 48))):=((uj _ _).alloc (tu _) _).alloc acx _;have hcase:¬d1=d2\/(d1=d2/\¬items1.length=items2.length)\/(d1=d2/\items1.length=items2.length/\¬sort1.length=sort2.length)\/(d1=d2/\items1.length=items2.length/\sort1.length=sort2.length/\¬lim=lim2) \/
  (d1=d2/\items1.length=items2.length/\sort1.length=sort2.length/\lim=lim2):=by
  by_cases e1:d1=d2<;>by_cases e2:items1.length=items2.length<;>by_cases e3:sort1.length=sort2.length<;>by_cases e4:lim=lim2<;>simp[*]
 clear hbb hn hi hf ho hw hg hs hi2 hf2 ho2 hw2 hg2 hs2 hqf hqo hqw hqg;rcases hcase with e1|⟨rfl,e2⟩|⟨rfl,e2,e3⟩|⟨rfl,e2,e3,e4⟩|⟨rfl,e2,e3,rfl⟩
 ·obtain rfl:bb=false:=Ak HBB.out (fun h=>e1 h.1);have f:(d1==d2)=false:=by simpa using e1
  exact mr
 ·obtain rfl:bb=false:=Ak HBB.out (fun h=>e2 (by rw[h.2.1]));have f:((items1.length:Int)==(items2.length:Int))=false:=by rw[us];omega
  exact mr
 ·obtain rfl:bb=false:=Ak HBB.out (fun h=>e3 (by rw[h.2.2.2.2.2.2.1]));rw[<- e2]at HB ⊢;clear e2;have f:((sort1.length:Int)==(sort2.length:Int))=false:=by rw[us];omega
  exact mr
 ·obtain rfl:bb=false:=Ak HBB.out (fun h=>e4 h.2.2.2.2.2.2.2);rw[<- e2,<- e3]at HB ⊢;clear e2 e3;exact mr
 ·rw[<- e2,<- e3]at HB ⊢;rw[<- e2]at HI2;rw[<- e3]at HS2;have HE:=tm e2;have HE3:=tm e3;clear e2 e3;have S:Hid (St w ((w.alloc (.cells #[.bool d1,.slice ia items1.length ic,.slice fa from1.length fc,.slice oa on1.length oc,.int .i64 op1,.string ⟨t1.toArray⟩,.string ⟨n1.toArray⟩,.int .i64 k1,.int .i64 m,.string z,.slice wa args1.length wc,.slice ga group1.length gc,.slice sa sort1.length sc,.int .i64 lim] 48)).alloc (.cells #[.bool d1,.slice ia2 items1.length ic2,.slice fa2 from2.length fc2,.slice oa2 on2.length oc2,.int .i64 op2,.string ⟨t2.toArray⟩,.string ⟨n2.toArray⟩,.int .i64 k2,.int .i64 m2,.string z2,.slice wa2 args2.length wc2,.slice ga2 group2.length gc2,.slice sa2 sort1.length sc2,.int .i64 lim] 48)) [(w.heap.size+1,#[.bool d1,.slice ia2 items1.length ic2,.slice fa2 from2.length fc2,.slice oa2 on2.length oc2,.int .i64 op2,.string ⟨t2.toArray⟩,.string ⟨n2.toArray⟩,.int .i64 k2,.int .i64 m2,.string z2,.slice wa2 args2.length wc2,.slice ga2 group2.length gc2,.slice sa2 sort1.length sc2,.int .i64 lim],48),(w.heap.size,#[.bool d1,.slice ia items1.length ic,.slice fa from1.length fc,.slice oa on1.length oc,.int .i64 op1,.string ⟨t1.toArray⟩,.string ⟨n1.toArray⟩,.int .i64 k1,.int .i64 m,.string z,.slice wa args1.length wc,.slice ga group1.length gc,.slice sa sort1.length sc,.int .i64 lim],48)]):=(by
   show St _ _ _;have:=St.alloc (St.alloc (St.start w) (cs:=#[.bool d1,.slice ia items1.length ic,.slice fa from1.length fc,.slice oa on1.length oc,.int .i64 op1,.string ⟨t1.toArray⟩,.string ⟨n1.toArray⟩,.int .i64 k1,.int .i64 m,.string z,.slice wa args1.length wc,.slice ga group1.length gc,.slice sa sort1.length sc,.int .i64 lim]) (t:=48)) (cs:=#[.bool d1,.slice ia2 items1.length ic2,.slice fa2 from2.length fc2,.slice oa2 on2.length oc2,.int .i64 op2,.string ⟨t2.toArray⟩,.string ⟨n2.toArray⟩,.int .i64 k2,.int .i64 m2,.string z2,.slice wa2 args2.length wc2,.slice ga2 group2.length gc2,.slice sa2 sort1.length sc2,.int .i64 lim]) (t:=48);simpa only[ug]using this)
  go_enter func61,ntmps61;go_wp2_with fail;go_loopw [5,6] (fun i _ wr=>∃k:Nat,k<=items1.length/\i=.int .i64 k/\Hid (items1.take k=items2.take k)/\Hid (St w wr [(w.heap.size+1,#[.bool d1,.slice ia2 items1.length ic2,.slice fa2 from2.length fc2,.slice oa2 on2.length oc2,.int .i64 op2,.string ⟨t2.toArray⟩,.string ⟨n2.toArray⟩,.int .i64 k2,.int .i64 m2,.string z2,.slice wa2 args2.length wc2,.slice ga2 group2.length gc2,.slice sa2 sort1.length sc2,.int .i64 lim],48),(w.heap.size,#[.bool d1,.slice ia items1.length ic,.slice fa from1.length fc,.slice oa on1.length oc,.int .i64 op1,.string ⟨t1.toArray⟩,.string ⟨n1.toArray⟩,.int .i64 k1,.int .i64 m,.string z,.slice wa args1.length wc,.slice ga group1.length gc,.slice sa sort1.length sc,.int .i64 lim],48)])) (fun i _ _=>items1.length - (intOf i).toNat)
  case atStart=>exact⟨0,by omega,rfl,rfl,S.out⟩
  case round=>
   clear S;obtain⟨k,hk,rfl,HT,S⟩:=hrel;by_cases hlt:k<items1.length
   ·obtain⟨x,hx⟩:∃x,items1[k]?=some x:=⟨items1[k],by simp[hlt]⟩;obtain⟨y,hy⟩:∃x,items2[k]?=some x:=⟨items2[k]'(by rw[<- HE.out];exact hlt),by rw[vd]⟩;obtain⟨b1,o,cp,cs1,hb,hc,hatx⟩:=(HI.out.kept acy S.out.below).at hx;injection hb with e1 e3 e2;subst e1 e2;clear e3;obtain⟨b2,o2,cp,cs2,hb,hc2,haty⟩:=(HI2.out.kept acy S.out.below).at hy;injection hb with e1 e3 e2;subst e1 e2;clear e3;obtain⟨f,e1⟩:=x;obtain⟨f2,e2⟩:=y;obtain⟨g,rfl,hg⟩:=(show ∃c,cs1=.int .i64 f::c/\ExIn Q wr e1 c from hc);obtain⟨g,rfl,hg2⟩:=(show ∃c,cs2=.int .i64 f2::c/\ExIn R wr e2 c from hc2);obtain⟨s1,r,rfl,_⟩:=exIn_cells3 hg;obtain⟨s2,r2,rfl,_⟩:=exIn_cells3 hg2;have x0:=hatx 0 _ rfl;have x1:=hatx 1 _ rfl;have x2:=hatx 2 _ rfl;have x3:=hatx 3 _ rfl;have x4:=hatx 4 _ rfl;have x5:=hatx 5 _ rfl;have x6:=hatx 6 _ rfl;have x7:=hatx 7 _ rfl;have y0:=haty 0 _ rfl;have y1:=haty 1 _ rfl;have y2:=haty 2 _ rfl;have y3:=haty 3 _ rfl;have y4:=haty 4 _ rfl;have y5:=haty 5 _ rfl;have y6:=haty 6 _ rfl;have y7:=haty 7 _ rfl;simp only[show pkE.k=8 from rfl,u0]at x0 x1 x2 x3 x4 x5 x6 x7 y0 y1 y2 y3 y4 y5 y6 y7;have ZZ:Hid (∀(W:World),Below wr.heap.size wr W->(W.cell? ⟨b1,o+k * 8,none⟩=some (.int .i64 f)/\W.cell? ⟨b2,o2+k * 8,none⟩=some (.int .i64 f2))):=fun W hW=>⟨hW.cell_kept x0,hW.cell_kept y0⟩;replace x0:=ud x0;replace x1:=ud x1;replace x2:=ud x2;replace x3:=ud x3;replace x4:=ud x4;replace x5:=ud x5;replace x6:=ud x6;replace x7:=ud x7;replace y0:=ud y0;replace y1:=ud y1;replace y2:=ud y2;replace y3:=ud y3;replace y4:=ud y4
    replace y5:=ud y5;replace y6:=ud y6;replace y7:=ud y7;have hki:(k:Int)<(items1.length:Int):=acw;have HX:=tm hx;have HY:=tm hy;have hok:e1.ok:=HN.out.iarg _ (uq hx);obtain⟨qe,hqe⟩:=Cw (e1=e2);have CC:Hid (∀(d:Nat) (os:Array Obj),Calls prog 60 #[.agg #[.int .i64 e1.op,.string ⟨e1.table.toArray⟩,.string ⟨e1.name.toArray⟩,.int .i64 e1.val.k,.int .i64 e1.val.n,.string e1.val.s,.slice s1 e1.args.length r],.agg #[.int .i64 e2.op,.string ⟨e2.table.toArray⟩,.string ⟨e2.name.toArray⟩,.int .i64 e2.val.k,.int .i64 e2.val.n,.string e2.val.s,.slice s2 e2.args.length r2]] (grow (redrawn wr d) os) fun e w'=>e=.returned (.bool qe)/\Laid (grow (redrawn wr d) os) w'):=fun d os=>
     Fh Q R e1 hok e2 _ _ _ qe (exE.move (fun b hl k=>⟨k,(vt wr d os).block b hl⟩) hg) (exE.move (fun b hl k=>⟨k,(vt wr d os).block b hl⟩) hg2) hqe
    have HQE:=tm hqe;have FG:=S.out.factsG;simp only[St.FactsG,cellFactsG,uo]at FG;have F:=fx_ S.out.facts;clear hatx haty hc hc2 hx hy hg hg2 hqe hok;go_upto_region 6 with fail;clear F;refine wp_region_mixed 14 [(0,false),(1,false),(2,false),(3,false),(4,false),(5,false),(6,false),(7,false),(8,false),(9,false),(10,false),(11,false),(12,false),(13,false)] acz acz ?_;repeat(refine wpM_mild rfl (fun K hK=>?_);go_simp;first|(refine hK _ ?_;clear hK K)|(apply Exists.intro;refine⟨fun _=>?_,hK _ ?_⟩;(exact CC.out _ _);clear hK K))
    refine Ba ?_;intro w3 hb _;replace S:=tm (S.out.kept hb);obtain⟨u,v⟩:=ZZ.out _ hb;replace u:=ud u;replace v:=ud v;clear hb x0 x1 x2 x3 x4 x5 x6 x7 y0 y1 y2 y3 y4 y5 y6 y7 CC FG ZZ;have FG:=S.out.factsG;simp only[St.FactsG,cellFactsG,uo]at FG
    cases qe with
    | false=>
     obtain rfl:bb=false:=Ak HBB.out (fun h=>Ig HX.out HY.out (fun e=>absurd (HQE.out.2 (by injection e)) acy) h.2.1);go_upto_region 7 with fail;refine wp_region_mixed 17 [(0,false),(1,false),(2,false),(3,false),(4,false),(5,false),(6,false),(7,false),(8,false),(9,false),(10,false),(11,false),(12,false),(13,false),(14,false),(15,false),(16,false)] acz acz ?_;refine z1053 ?_;refine Ba ?_;intro w4 hb _;refine z252 ?_;intro S;clear hb FG u v;exact z1033
    | true=>
     obtain rfl:=HQE.out.1 rfl;by_cases hff:f=f2
     ·subst hff;have HT3:Hid (items1.take (k+1)=items2.take (k+1)):=Cl HT.out HX.out HY.out;go_upto_region 7 with fail;refine wp_region_mixed 17 [(0,false),(1,false),(2,false),(3,false),(4,false),(5,false),(6,false),(7,false),(8,false),(9,false),(10,false),(11,false),(12,false),(13,false),(14,false),(15,false),(16,false)] acz acz ?_;refine z1053 ?_;refine Ba ?_;intro w4 hb _;refine z252 ?_;intro S;clear hb FG u v HT HX HY;exact z131
     ·obtain rfl:bb=false:=Ak HBB.out (fun h=>Ig HX.out HY.out (fun e=>hff (by injection e)) h.2.1);have hff2:(f==f2)=false:=by simpa using hff
      go_upto_region 7 with fail;refine wp_region_mixed 17 [(0,false),(1,false),(2,false),(3,false),(4,false),(5,false),(6,false),(7,false),(8,false),(9,false),(10,false),(11,false),(12,false),(13,false),(14,false),(15,false),(16,false)] acz acz ?_;refine z1053 ?_;refine Ba ?_;intro w4 hb _;refine z252 ?_;intro S;clear hb FG u v;exact z1033
   ·obtain rfl:k=items1.length:=acw;have HTI:Hid (items1=items2):=by have:=HT.out;rwa [xu,wq (by rw[<- HE.out];exact tu _)]at this
    clear HT hk hlt;refine z1076 ?_;intro F;go_wp2_with fail;clear F;go_loopw [7] (fun i wr=>∃k:Nat,k<=sort1.length/\i=.int .i64 k/\Hid (sort1.take k=sort2.take k)/\Hid (St w wr [(w.heap.size+1,#[.bool d1,.slice ia2 items1.length ic2,.slice fa2 from2.length fc2,.slice oa2 on2.length oc2,.int .i64 op2,.string ⟨t2.toArray⟩,.string ⟨n2.toArray⟩,.int .i64 k2,.int .i64 m2,.string z2,.slice wa2 args2.length wc2,.slice ga2 group2.length gc2,.slice sa2 sort1.length sc2,.int .i64 lim],48),(w.heap.size,#[.bool d1,.slice ia items1.length ic,.slice fa from1.length fc,.slice oa on1.length oc,.int .i64 op1,.string ⟨t1.toArray⟩,.string ⟨n1.toArray⟩,.int .i64 k1,.int .i64 m,.string z,.slice wa args1.length wc,.slice ga group1.length gc,.slice sa sort1.length sc,.int .i64 lim],48)])) (fun i _=>sort1.length - (intOf i).toNat)
    case atStart=>exact⟨0,by omega,rfl,rfl,S.out⟩
    case round=>
     clear S;obtain⟨k,hk,rfl,HT,S⟩:=hrel;by_cases hlt:k<sort1.length
     ·obtain⟨x,hx⟩:∃x,sort1[k]?=some x:=⟨sort1[k],by simp[hlt]⟩;obtain⟨y,hy⟩:∃x,sort2[k]?=some x:=⟨sort2[k]'(by rw[<- HE3.out];exact hlt),by rw[vd]⟩;obtain⟨b1,o,cp,cs1,hb,hc,hatx⟩:=(HS.out.kept acy S.out.below).at hx;injection hb with e1 e3 e2;subst e1 e2;clear e3;obtain⟨b2,o,cp,cs2,hb,hc2,haty⟩:=(HS2.out.kept acy S.out.below).at hy;injection hb with e1 e3 e2;subst e1 e2;clear e3;obtain⟨p,q⟩:=x;obtain⟨p2,q2⟩:=y;have e:cs1=[.int .i64 p,.bool q]:=hc;subst e;have e:cs2=[.int .i64 p2,.bool q2]:=hc2;subst e;have x0:=ud (hatx 0 _ rfl);have x1:=ud (hatx 1 _ rfl);have y0:=ud (haty 0 _ rfl);have y1:=ud (haty 1 _ rfl);simp only[show srtE.k=2 from rfl,u0]at x0 x1 y0 y1;have hki:(k:Int)<(sort1.length:Int):=acw;have HX:=tm hx;have HY:=tm hy;have FG:=S.out.factsG;simp only[St.FactsG,cellFactsG,uo]at FG;refine z1076 ?_;intro F;clear hatx haty hc hc2 hx hy;by_cases hxy:(⟨p,q⟩:Srt)=⟨p2,q2⟩
      ·injection hxy with e1 e2;subst e1 e2;have HT3:Hid (sort1.take (k+1)=sort2.take (k+1)):=Cl HT.out HX.out HY.out;go_upto_region 12 with fail;clear F;refine wp_region_mixed 11 [(0,false),(1,false),(2,false),(3,false),(4,false),(5,false),(6,false),(7,false),(8,false),(9,false),(10,false)] acz acz ?_;refine z1053 ?_;refine Ba ?_;intro w3 hb _;refine z252 ?_;intro S;clear hb x0 x1 y0 y1 HT FG HX HY;go_wp2_with fail;go_roundw
       case rel=>exact⟨k+1,by omega,by go_num,HT3.out,S.out⟩
       case measure=>simp[intOf];omega
      ·obtain rfl:bb=false:=Ak HBB.out (fun h=>Ig HX.out HY.out hxy h.2.2.2.2.2.2.1);have hpq:¬p=p2\/(p=p2/\¬q=q2):=by
        by_cases e1:p=p2
        ·exact .inr ⟨e1,fun e2=>hxy (by rw[e1,e2])⟩
        ·exact .inl e1
       clear hxy HX HY HT;rcases hpq with e1|⟨rfl,e2⟩
       all_goals
        go_upto_region 12 with fail
        clear F
        refine wp_region_mixed 11 [(0,false),(1,false),(2,false),(3,false),(4,false),(5,false),(6,false),(7,false),(8,false),(9,false),(10,false)] acz acz ?_
        repeat(refine wpM_mild rfl (fun K hK=>?_);go_simp;first|(refine hK _ ?_;clear hK K)|(apply Exists.intro;refine⟨fun _=>?_,hK _ ?_⟩;(fail);clear hK K))
        refine Ba ?_
        intro w3 hb _
        replace S:=tm (S.out.kept hb)
        clear hb x0 x1 y0 y1 FG
        go_wp2_with fail
        go_returns
        exact⟨rfl,S.out.below⟩
     ·obtain rfl:k=sort1.length:=acw;have HTS:Hid (sort1=sort2):=by have:=HT.out;rwa [xu,wq (by rw[<- HE3.out];exact tu _)]at this
      clear HT hk hlt;have F:=fx_ S.out.facts;go_wp2_with fail;refine tp (CF.out _ S.out.below) ?_;rintro e w3 ⟨rfl,hb⟩;replace S:=tm (S.out.kept hb);have F3:=fx_ S.out.facts;clear hb F CF
      cases qf with
      | false=>
       obtain rfl:bb=false:=Ak HBB.out (fun h=>absurd (HQ.out.1.2 h.2.2.1) acy);exact z1033
      | true=>
      go_wp2_with fail;refine tp (CO.out _ S.out.below) ?_;rintro e w4 ⟨rfl,hb⟩;replace S:=tm (S.out.kept hb);have F:=fx_ S.out.facts;clear hb F3 CO
      cases qo with
      | false=>
       obtain rfl:bb=false:=Ak HBB.out (fun h=>absurd (HQ.out.2.1.2 h.2.2.2.1) acy);exact z1033
      | true=>
      go_wp2_with fail;refine tp (CW.out _ S.out.below) ?_;rintro e w5 ⟨rfl,hb⟩;replace S:=tm (S.out.kept hb);have F5:=fx_ S.out.facts;clear hb F CW
      cases qw with
      | false=>
       obtain rfl:bb=false:=Ak HBB.out (fun h=>absurd (HQ.out.2.2.1.2 h.2.2.2.2.1) acy);exact z1033
      | true=>
      go_wp2_with fail;refine tp (CG.out _ S.out.below) ?_;rintro e w6 ⟨rfl,hb⟩;replace S:=tm (S.out.kept hb);clear hb F5 CG;obtain rfl:bb=qg:=by
       cases qg with
       | false=>exact Ak HBB.out (fun h=>absurd (HQ.out.2.2.2.2 h.2.2.2.2.2.1) acy)
       | true=>exact HBB.out.2 ⟨by trivial,HTI.out,HQ.out.1.1 (by trivial),HQ.out.2.1.1 (by trivial),HQ.out.2.2.1.1 (by trivial),HQ.out.2.2.2.1 (by trivial),HTS.out,by trivial⟩
      go_wp2_with fail;go_returns;exact⟨rfl,S.out.below⟩
end Go.Proofs.YtimoefagohifaaaGreatDoor
