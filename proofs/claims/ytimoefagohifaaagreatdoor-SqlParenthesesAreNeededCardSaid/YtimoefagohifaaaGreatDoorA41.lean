/- Laws that the last part needs. No condition. -/
import Derived.Test.YtimoefagohifaaaGreatDoorA19
import Derived.Test.YtimoefagohifaaaGreatDoorA36
import Derived.Test.YtimoefagohifaaaGreatDoorA40
set_option maxHeartbeats 16000000
set_option maxRecDepth 100000
namespace Go.Proofs.YtimoefagohifaaaGreatDoor
open Tryz
section
open Go.RowKit Go.Sort
theorem O6 (Q R:Nat->Prop) (x y:Tbl) (v1 v2:Value) (w:World) (h1:RTblI Q w x v1) (h2:RTblI R w y v2) (hx:x.indexes=[]) (hy:y.indexes=[]) (hl:x.cols.length<=4611686018427387904/\x.checks.length<=4611686018427387904) (bb:Bool) (hbb:bb=true↔x=y):Calls prog 56 #[v1,v2] w (Says (.bool bb) w):=by
 obtain⟨nm,cols1,ix,checks1⟩:=x;obtain⟨nm2,cols2,ix,checks2⟩:=y;simp only at hx hy hl;subst hx hy;obtain⟨ca,cc,ia,ic,ka,kc,rfl,hc,hk1⟩:=h1;obtain⟨ca2,cc2,ia2,ic2,ka2,kc2,rfl,hc2,hk2⟩:=h2;rw[Tbl.mk.injEq]at hbb;have HBB:=tm hbb;simp only[tx]at hc hk1 hc2 hk2 ⊢;have HC:=tm hc;have HC2:=tm hc2;have HK:=tm hk1;have HK2:=tm hk2;obtain⟨hcl,hkl⟩:=hl;have HB:Hid (Below w.heap.size w ((w.alloc (.cells #[.string ⟨nm.toArray⟩,.slice ca cols1.length cc,.slice ia 0 ic,.slice ka checks1.length kc] 35)).alloc (.cells #[.string ⟨nm2.toArray⟩,.slice ca2 cols2.length cc2,.slice ia2 0 ic2,.slice ka2 checks2.length kc2] 35))):=((uj _ _).alloc (tu _) _).alloc acx _;have hcase:¬nm=nm2\/(nm=nm2/\¬cols1.length=cols2.length)\/(nm=nm2/\cols1.length=cols2.length/\¬checks1.length=checks2.length)\/(nm=nm2/\cols1.length=cols2.length/\checks1.length=checks2.length):=by
  by_cases e1:nm=nm2<;>by_cases e2:cols1.length=cols2.length<;>by_cases e3:checks1.length=checks2.length<;>simp[*]
 clear hbb hc hk1 hc2 hk2;rcases hcase with e1|⟨rfl,e2⟩|⟨rfl,e2,e3⟩|⟨rfl,e2,e3⟩
 ·obtain rfl:bb=false:=Ak HBB.out (fun h=>e1 h.1);have f:(nm==nm2)=false:=by simpa using e1
  go_enter func56,ntmps56;exact z63
 ·obtain rfl:bb=false:=Ak HBB.out (fun h=>e2 (by rw[h.2.1]));have f:((cols1.length:Int)==(cols2.length:Int))=false:=by rw[us];omega
  go_enter func56,ntmps56;exact z63
 ·obtain rfl:bb=false:=Ak HBB.out (fun h=>e3 (by rw[h.2.2.2]));rw[<- e2]at HB ⊢;clear e2;have f:((checks1.length:Int)==(checks2.length:Int))=false:=by rw[us];omega
  go_enter func56,ntmps56;exact z63
 ·rw[<- e2,<- e3]at HB ⊢;rw[<- e2]at HC2;rw[<- e3]at HK2;have HE:=tm e2;have HE3:=tm e3;clear e2 e3;have S:Hid (St w ((w.alloc (.cells #[.string ⟨nm.toArray⟩,.slice ca cols1.length cc,.slice ia 0 ic,.slice ka checks1.length kc] 35)).alloc (.cells #[.string ⟨nm.toArray⟩,.slice ca2 cols1.length cc2,.slice ia2 0 ic2,.slice ka2 checks1.length kc2] 35)) [(w.heap.size+1,#[.string ⟨nm.toArray⟩,.slice ca2 cols1.length cc2,.slice ia2 0 ic2,.slice ka2 checks1.length kc2],35),(w.heap.size,#[.string ⟨nm.toArray⟩,.slice ca cols1.length cc,.slice ia 0 ic,.slice ka checks1.length kc],35)]):=(by
   show St _ _ _;have:=St.alloc (St.alloc (St.start w) (cs:=#[.string ⟨nm.toArray⟩,.slice ca cols1.length cc,.slice ia 0 ic,.slice ka checks1.length kc]) (t:=35)) (cs:=#[.string ⟨nm.toArray⟩,.slice ca2 cols1.length cc2,.slice ia2 0 ic2,.slice ka2 checks1.length kc2]) (t:=35);simpa only[ug]using this)
  go_enter func56,ntmps56;go_wp2_with fail;go_loopw [5] (fun i wr=>∃k:Nat,k<=cols1.length/\i=.int .i64 k/\Hid (cols1.take k=cols2.take k)/\Hid (St w wr [(w.heap.size+1,#[.string ⟨nm.toArray⟩,.slice ca2 cols1.length cc2,.slice ia2 0 ic2,.slice ka2 checks1.length kc2],35),(w.heap.size,#[.string ⟨nm.toArray⟩,.slice ca cols1.length cc,.slice ia 0 ic,.slice ka checks1.length kc],35)])) (fun i _=>cols1.length - (intOf i).toNat)
  case atStart=>exact⟨0,by omega,rfl,rfl,S.out⟩
  case round=>
   clear S;obtain⟨k,hk,rfl,HT,S⟩:=hrel;by_cases hlt:k<cols1.length
   ·obtain⟨x,hx⟩:∃x,cols1[k]?=some x:=⟨cols1[k],by simp[hlt]⟩;obtain⟨y,hy⟩:∃x,cols2[k]?=some x:=⟨cols2[k]'(by rw[<- HE.out];exact hlt),by rw[vd]⟩;obtain⟨b,o,cp,cs1,hb,hc,hatx⟩:=(HC.out.kept acy S.out.below).at hx;injection hb with e1 e3 e2;subst e1 e2;clear e3;obtain⟨b,o,cp,cs2,hb,hc2,haty⟩:=(HC2.out.kept acy S.out.below).at hy;injection hb with e1 e3 e2;subst e1 e2;clear e3;obtain⟨a,q,z⟩:=x;obtain⟨a2,q2,z2⟩:=y;have e:cs1=[.string ⟨a.toArray⟩,.int .i64 q,.bool z]:=hc;subst e;have e:cs2=[.string ⟨a2.toArray⟩,.int .i64 q2,.bool z2]:=hc2;subst e;have x0:=ud (hatx 0 _ rfl);have x1:=ud (hatx 1 _ rfl);have x2:=ud (hatx 2 _ rfl);have y0:=ud (haty 0 _ rfl);have y1:=ud (haty 1 _ rfl);have y2:=ud (haty 2 _ rfl);simp only[show colE.k=3 from rfl,u0]at x0 x1 x2 y0 y1 y2;have hki:(k:Int)<(cols1.length:Int):=acw;have HX:=tm hx;have HY:=tm hy;have FG:=S.out.factsG;simp only[St.FactsG,cellFactsG,uo]at FG;refine z1076 ?_;intro F;clear hatx haty hc hc2 hx hy;by_cases hxy:(⟨a,q,z⟩:Col)=⟨a2,q2,z2⟩
    ·injection hxy with e1 e2 e3;subst e1 e2 e3;have HT3:Hid (cols1.take (k+1)=cols2.take (k+1)):=Cl HT.out HX.out HY.out;go_upto_region 6 with fail;clear F;refine wp_region_mixed 11 [(0,false),(1,false),(2,false),(3,false),(4,false),(5,false),(6,false),(7,false),(8,false),(9,false),(10,false)] acz acz ?_;refine z1053 ?_;refine Ba ?_;intro w3 hb _;refine z252 ?_;intro S;clear hb x0 x1 x2 y0 y1 y2 HT FG HX HY;go_wp2_with fail;go_roundw
     case rel=>exact⟨k+1,by omega,by go_num,HT3.out,S.out⟩
     case measure=>simp[intOf];omega
    ·obtain rfl:bb=false:=Ak HBB.out (fun h=>Ig HX.out HY.out hxy h.2.1);have hpq:¬a=a2\/(a=a2/\¬q=q2)\/(a=a2/\q=q2/\¬z=z2):=by
      by_cases e1:a=a2
      ·by_cases e2:q=q2
       ·exact .inr (.inr ⟨e1,e2,fun e3=>hxy (by rw[e1,e2,e3])⟩)
       ·exact .inr (.inl ⟨e1,e2⟩)
      ·exact .inl e1
     clear hxy HX HY HT;rcases hpq with e1|⟨rfl,e2⟩|⟨rfl,rfl,e3⟩
     all_goals
      go_upto_region 6 with fail
      clear F
      refine wp_region_mixed 11 [(0,false),(1,false),(2,false),(3,false),(4,false),(5,false),(6,false),(7,false),(8,false),(9,false),(10,false)] acz acz ?_
      repeat(refine wpM_mild rfl (fun K hK=>?_);go_simp;first|(refine hK _ ?_;clear hK K)|(apply Exists.intro;refine⟨fun _=>?_,hK _ ?_⟩;(fail);clear hK K))
      refine Ba ?_
      intro w3 hb _
      replace S:=tm (S.out.kept hb)
      clear hb x0 x1 x2 y0 y1 y2 FG
      go_wp2_with fail
      go_returns
      exact⟨rfl,S.out.below⟩
   ·obtain rfl:k=cols1.length:=acw;have HTcols:Hid (cols1=cols2):=by have:=HT.out;rwa [xu,wq (by rw[<- HE.out];exact tu _)]at this
    clear HT hk hlt;refine z1076 ?_;intro F;go_wp2_with fail;clear F;refine wm 1 ?_;rw[vq];refine z1076 ?_;intro F;go_wp2_with fail;clear F;go_loopw [8] (fun i wr=>∃k:Nat,k<=checks1.length/\i=.int .i64 k/\Hid (checks1.take k=checks2.take k)/\Hid (St w wr [(w.heap.size+1,#[.string ⟨nm.toArray⟩,.slice ca2 cols1.length cc2,.slice ia2 0 ic2,.slice ka2 checks1.length kc2],35),(w.heap.size,#[.string ⟨nm.toArray⟩,.slice ca cols1.length cc,.slice ia 0 ic,.slice ka checks1.length kc],35)])) (fun i _=>checks1.length - (intOf i).toNat)
    case atStart=>exact⟨0,by omega,rfl,rfl,S.out⟩
    case round=>
     clear S;obtain⟨k,hk,rfl,HT,S⟩:=hrel;by_cases hlt:k<checks1.length
     ·obtain⟨x,hx⟩:∃x,checks1[k]?=some x:=⟨checks1[k],by simp[hlt]⟩;obtain⟨y,hy⟩:∃x,checks2[k]?=some x:=⟨checks2[k]'(by rw[<- HE3.out];exact hlt),by rw[vd]⟩;obtain⟨b,o,cp,cs1,hb,hc,hatx⟩:=(HK.out.kept acy S.out.below).at hx;injection hb with e1 e3 e2;subst e1 e2;clear e3;obtain⟨b,o,cp,cs2,hb,hc2,haty⟩:=(HK2.out.kept acy S.out.below).at hy;injection hb with e1 e3 e2;subst e1 e2;clear e3;obtain⟨a,q,⟨z,m,s⟩⟩:=x;obtain⟨a2,q2,⟨z2,m2,s2⟩⟩:=y;have e:cs1=[.int .i64 a,.int .i64 q,.int .i64 z,.int .i64 m,.string s]:=hc;subst e;have e:cs2=[.int .i64 a2,.int .i64 q2,.int .i64 z2,.int .i64 m2,.string s2]:=hc2;subst e;have x0:=ud (hatx 0 _ rfl);have x1:=ud (hatx 1 _ rfl);have x2:=ud (hatx 2 _ rfl);have x3:=ud (hatx 3 _ rfl);have x4:=ud (hatx 4 _ rfl);have y0:=ud (haty 0 _ rfl);have y1:=ud (haty 1 _ rfl);have y2:=ud (haty 2 _ rfl);have y3:=ud (haty 3 _ rfl);have y4:=ud (haty 4 _ rfl);simp only[show chkE.k=5 from rfl,u0]at x0 x1 x2 x3 x4 y0 y1 y2 y3 y4;have hki:(k:Int)<(checks1.length:Int):=acw;have HX:=tm hx;have HY:=tm hy;have FG:=S.out.factsG;simp only[St.FactsG,cellFactsG,uo]at FG;refine z1076 ?_;intro F;clear hatx haty hc hc2 hx hy;by_cases hxy:(⟨a,q,⟨z,m,s⟩⟩:Chk)=⟨a2,q2,⟨z2,m2,s2⟩⟩
      ·injection hxy with e1 e2 e3;injection e3 with e3 e4 e5;subst e1 e2 e3 e4 e5;have HT3:Hid (checks1.take (k+1)=checks2.take (k+1)):=Cl HT.out HX.out HY.out;go_upto_region 17 with fail;clear F;refine wp_region_mixed 11 [(0,false),(1,false),(2,false),(3,false),(4,false),(5,false),(6,false),(7,false),(8,false),(9,false),(10,false)] acz acz ?_;refine z1053 ?_;refine Ba ?_;intro w3 hb _;refine z252 ?_;intro S;clear hb x0 x1 x2 x3 x4 y0 y1 y2 y3 y4 HT FG HX HY;go_wp2_with fail;go_roundw
       case rel=>exact⟨k+1,by omega,by go_num,HT3.out,S.out⟩
       case measure=>simp[intOf];omega
      ·obtain rfl:bb=false:=Ak HBB.out (fun h=>Ig HX.out HY.out hxy h.2.2.2);have hpq:¬a=a2\/(a=a2/\¬q=q2)\/(a=a2/\q=q2/\¬z=z2)\/(a=a2/\q=q2/\z=z2/\¬m=m2)\/(a=a2/\q=q2/\z=z2/\m=m2/\¬s.toList=s2.toList):=by
        by_cases e1:a=a2
        ·by_cases e2:q=q2
         ·by_cases e3:z=z2
          ·by_cases e4:m=m2
           ·exact .inr (.inr (.inr (.inr ⟨e1,e2,e3,e4,fun e5=>hxy (by rw[e1,e2,e3,e4,(Dy _ _).1 e5])⟩)))
           ·exact .inr (.inr (.inr (.inl ⟨e1,e2,e3,e4⟩)))
          ·exact .inr (.inr (.inl ⟨e1,e2,e3⟩))
         ·exact .inr (.inl ⟨e1,e2⟩)
        ·exact .inl e1
       clear hxy HX HY HT;rcases hpq with e1|⟨rfl,e2⟩|⟨rfl,rfl,e3⟩|⟨rfl,rfl,rfl,e4⟩|⟨rfl,rfl,rfl,rfl,e5⟩
       all_goals
        go_upto_region 17 with fail
        clear F
        refine wp_region_mixed 11 [(0,false),(1,false),(2,false),(3,false),(4,false),(5,false),(6,false),(7,false),(8,false),(9,false),(10,false)] acz acz ?_
        repeat(refine wpM_mild rfl (fun K hK=>?_);go_simp;first|(refine hK _ ?_;clear hK K)|(apply Exists.intro;refine⟨fun _=>?_,hK _ ?_⟩;(fail);clear hK K))
        refine Ba ?_
        intro w3 hb _
        replace S:=tm (S.out.kept hb)
        clear hb x0 x1 x2 x3 x4 y0 y1 y2 y3 y4 FG
        go_wp2_with fail
        go_returns
        exact⟨rfl,S.out.below⟩
     ·obtain rfl:k=checks1.length:=acw;have HTchecks:Hid (checks1=checks2):=by have:=HT.out;rwa [xu,wq (by rw[<- HE3.out];exact tu _)]at this
      clear HT hk hlt;refine z1076 ?_;intro F;go_wp2_with fail;obtain rfl:bb=true:=HBB.out.2 ⟨by trivial,HTcols.out,by trivial,HTchecks.out⟩;go_returns;exact⟨rfl,S.out.below⟩
structure Stm.Nice (x:Stm):Prop where
 ix:x.schema.indexes=[]
 sch:x.schema.cols.length<=4611686018427387904/\x.schema.checks.length<=4611686018427387904
 ns:x.names.length<=4611686018427387904
 rs:x.rows.length<=4611686018427387904/\∀r∈x.rows,r.length<=4611686018427387904
 es:x.exprs.length<=4611686018427387904/\∀e∈x.exprs,e.formed=true
 wh:x.where_.ok
 sel:x.select.Nice
theorem nu (x y:Stm):x=y↔x.kind=y.kind/\x.table=y.table/\x.name=y.name/\x.unique=y.unique/\x.mode=y.mode/\x.column=y.column/\x.schema=y.schema/\x.names=y.names/\x.rows=y.rows/\x.exprs=y.exprs/\x.where_=y.where_/\x.select=y.select:=by
 cases x
 cases y;simp only[Stm.mk.injEq];constructor
 ·rintro⟨h1,h2,h3,h4,h5,h6,h7,h8,h9,h10,h11,h12⟩;exact⟨h1,h2,h3,h7,h12,h5,h4,h6,h8,h9,h10,h11⟩
 ·rintro⟨h1,h2,h3,h7,h12,h5,h4,h6,h8,h9,h10,h11⟩;exact⟨h1,h2,h3,h4,h5,h6,h7,h8,h9,h10,h11,h12⟩
theorem pc {s r:SV} {x y:Stm} {Q R:Nat->Prop} {w:World} (h1:StmIn Q w s x) (h2:StmIn R w r y):x.column=y.column↔s.c0=r.c0/\s.c1=r.c1/\s.c2=r.c2:=by
 have a:=h1.sv;have b:=h2.sv;rw[a.c0,a.c1,a.c2,b.c0,b.c1,b.c2];generalize x.column=c;generalize y.column=d
 cases c
 cases d;simp
theorem O5 (Q R:Nat->Prop) (x y:Stm) (s r:SV) (w:World) (h1:StmIn Q w s x) (h2:StmIn R w r y) (hn:x.Nice) (hy:y.schema.indexes=[]) (bb:Bool) (hbb:bb=true↔x=y):Calls prog 16 #[.agg s.arr,.agg r.arr] w (Says (.bool bb) w):=by
 obtain⟨q,hq⟩:=Cw (x.schema=y.schema);obtain⟨q2,hq2⟩:=Cw (x.names=y.names);obtain⟨q3,hq3⟩:=Cw (x.rows=y.rows);obtain⟨q4,hq4⟩:=Cw (x.exprs=y.exprs);obtain⟨q5,hq5⟩:=Cw (x.where_=y.where_);obtain⟨q6,hq6⟩:=Cw (x.select=y.select);have HBB:Hid (bb=true↔s.k=r.k/\s.tb=r.tb/\s.nm=r.nm/\s.un=r.un/\s.md=r.md/\(s.c0=r.c0/\s.c1=r.c1/\s.c2=r.c2)/\q=true/\q2=true/\q3=true/\q4=true/\q5=true/\q6=true):=by
  show _↔_;rw[hbb,nu,h1.k,h2.k,h1.tb,h2.tb,h1.nm,h2.nm,h1.un,h2.un,h1.md,h2.md,pc h1 h2,hq,hq2,hq3,hq4,hq5,hq6]
 have C:Hid (∀W,Below w.heap.size w W->Calls prog 56 #[.agg #[.string ⟨s.s0.toArray⟩,.slice s.s1.1 s.s1.2.1 s.s1.2.2,.slice s.s2.1 s.s2.2.1 s.s2.2.2,.slice s.s3.1 s.s3.2.1 s.s3.2.2],.agg #[.string ⟨r.s0.toArray⟩,.slice r.s1.1 r.s1.2.1 r.s1.2.2,.slice r.s2.1 r.s2.2.1 r.s2.2.2,.slice r.s3.1 r.s3.2.1 r.s3.2.2]] W (Says (.bool q) W)):=fun W hW=>O6 Q R x.schema y.schema _ _ W (h1.kept hW).sch (h2.kept hW).sch hn.ix hy hn.sch q hq;have C2:Hid (∀W,Below w.heap.size w W->Calls prog 57 #[.slice s.ns.1 s.ns.2.1 s.ns.2.2,.slice r.ns.1 r.ns.2.1 r.ns.2.2] W (Says (.bool q2) W)):=fun W hW=>by
  have:=He Q R x.names y.names _ _ W (h1.kept hW).ns (h2.kept hW).ns hn.ns
  have e:decide (x.names=y.names)=q2:=by
   cases q2 with
   | true=>exact vf (hq2.1 rfl)
   | false=>exact vm (fun h=>absurd (hq2.2 h) acy)
  rwa [e]at this
 have C3:Hid (∀W,Below w.heap.size w W->Calls prog 58 #[.slice s.rs.1 s.rs.2.1 s.rs.2.2,.slice r.rs.1 r.rs.2.1 r.rs.2.2] W (Says (.bool q3) W)):=fun W hW=>Nk Q R x.rows y.rows _ _ W (h1.kept hW).rs (h2.kept hW).rs hn.rs.1 hn.rs.2 q3 hq3;have C4:Hid (∀W,Below w.heap.size w W->Calls prog 59 #[.slice s.es.1 s.es.2.1 s.es.2.2,.slice r.es.1 r.es.2.1 r.es.2.2] W (Says (.bool q4) W)):=fun W hW=>Gd Q R x.exprs y.exprs _ _ W (h1.kept hW).es (h2.kept hW).es hn.es.1 hn.es.2 q4 hq4;have C5:Hid (∀W,Below w.heap.size w W->Calls prog 60 #[.agg #[.int .i64 s.wo,.string ⟨s.wt.toArray⟩,.string ⟨s.wn.toArray⟩,.int .i64 s.wv.k,.int .i64 s.wv.n,.string s.wv.s,.slice s.wa.1 s.wa.2.1 s.wa.2.2],.agg #[.int .i64 r.wo,.string ⟨r.wt.toArray⟩,.string ⟨r.wn.toArray⟩,.int .i64 r.wv.k,.int .i64 r.wv.n,.string r.wv.s,.slice r.wa.1 r.wa.2.1 r.wa.2.2]] W (Says (.bool q5) W)):=fun W hW=>by
  have a:=(h1.kept hW).wh;have a2:=(h2.kept hW).wh;refine Fh Q R x.where_ hn.wh y.where_ _ _ W q5 (?_:ExIn Q W x.where_ [U s.wo,.string (Y s.wt),.string (Y s.wn),U s.wv.k,U s.wv.n,.string s.wv.s,.slice s.wa.1 s.wa.2.1 s.wa.2.2]) (?_:ExIn R W y.where_ [U r.wo,.string (Y r.wt),.string (Y r.wn),U r.wv.k,U r.wv.n,.string r.wv.s,.slice r.wa.1 r.wa.2.1 r.wa.2.2]) hq5
  ·rw[a.1,a.2.1,a.2.2.1,a.2.2.2.1];have a5:=a.2.2.2.2;generalize x.where_=e at a5 ⊢
   cases e;exact Bc a5
  ·rw[a2.1,a2.2.1,a2.2.2.1,a2.2.2.2.1];have a:=a2.2.2.2.2;generalize y.where_=e at a ⊢
   cases e;exact Bc a
 have C6:Hid (∀W,Below w.heap.size w W->Calls prog 61 #[.agg #[.bool s.xd,.slice s.xi.1 s.xi.2.1 s.xi.2.2,.slice s.xf.1 s.xf.2.1 s.xf.2.2,.slice s.xo.1 s.xo.2.1 s.xo.2.2,.int .i64 s.yo,.string ⟨s.yt.toArray⟩,.string ⟨s.yn.toArray⟩,.int .i64 s.yv.k,.int .i64 s.yv.n,.string s.yv.s,.slice s.ya.1 s.ya.2.1 s.ya.2.2,.slice s.xg.1 s.xg.2.1 s.xg.2.2,.slice s.xs.1 s.xs.2.1 s.xs.2.2,.int .i64 s.xl],.agg #[.bool r.xd,.slice r.xi.1 r.xi.2.1 r.xi.2.2,.slice r.xf.1 r.xf.2.1 r.xf.2.2,.slice r.xo.1 r.xo.2.1 r.xo.2.2,.int .i64 r.yo,.string ⟨r.yt.toArray⟩,.string ⟨r.yn.toArray⟩,.int .i64 r.yv.k,.int .i64 r.yv.n,.string r.yv.s,.slice r.ya.1 r.ya.2.1 r.ya.2.2,.slice r.xg.1 r.xg.2.1 r.xg.2.2,.slice r.xs.1 r.xs.2.1 r.xs.2.2,.int .i64 r.xl]] W (Says (.bool q6) W)):=fun W hW=>Ku Q R x.select y.select _ _ W (h1.kept hW).sel (h2.kept hW).sel hn.sel q6 hq6;have hcase:(¬s.k=r.k)\/(s.k=r.k/\¬s.tb=r.tb)\/(s.k=r.k/\s.tb=r.tb/\¬s.nm=r.nm)\/(s.k=r.k/\s.tb=r.tb/\s.nm=r.nm/\¬s.un=r.un)\/(s.k=r.k/\s.tb=r.tb/\s.nm=r.nm/\s.un=r.un/\¬s.md=r.md)\/(s.k=r.k/\s.tb=r.tb/\s.nm=r.nm/\s.un=r.un/\s.md=r.md/\¬s.c0=r.c0)\/(s.k=r.k/\s.tb=r.tb/\s.nm=r.nm/\s.un=r.un/\s.md=r.md/\s.c0=r.c0/\¬s.c1=r.c1)\/(s.k=r.k/\s.tb=r.tb/\s.nm=r.nm/\s.un=r.un/\s.md=r.md/\s.c0=r.c0/\s.c1=r.c1/\¬s.c2=r.c2)\/(s.k=r.k/\s.tb=r.tb/\s.nm=r.nm/\s.un=r.un/\s.md=r.md/\s.c0=r.c0/\s.c1=r.c1/\s.c2=r.c2):=by
  by_cases e0:s.k=r.k
  ·by_cases e1:s.tb=r.tb
   ·by_cases e2:s.nm=r.nm
    ·by_cases e3:s.un=r.un
     ·by_cases e4:s.md=r.md
      ·by_cases e5:s.c0=r.c0
       ·by_cases e6:s.c1=r.c1
        ·by_cases e7:s.c2=r.c2
         ·simp[*]
         ·simp[*]
        ·simp[*]
       ·simp[*]
      ·simp[*]
     ·simp[*]
    ·simp[*]
   ·simp[*]
  ·simp[*]
 clear h1 h2 hn hy hbb hq hq2 hq3 hq4 hq5 hq6;go_enter func16,ntmps16;go_upto_region 1 with fail;have S:Hid (St w ((w.alloc (.cells s.arr 50)).alloc (.cells r.arr 50)) [(w.heap.size+1,r.arr,50),(w.heap.size,s.arr,50)]):=(by
  show St _ _ _;have:=St.alloc (St.alloc (St.start w) (cs:=s.arr) (t:=50)) (cs:=r.arr) (t:=50);simpa only[ug]using this)
 refine St.gen S.out ?_;clear S;intro w1 S;have hx:=S.out.blk 1 rfl;have x0:w1.cell? ⟨w.heap.size,0,none⟩=some (U s.k):=Rf;have x1:w1.cell? ⟨w.heap.size,1,none⟩=some (.string (Y s.tb)):=Rf;have x2:w1.cell? ⟨w.heap.size,2,none⟩=some (.string (Y s.nm)):=Rf;have x3:w1.cell? ⟨w.heap.size,3,none⟩=some (.string (Y s.s0)):=Rf;have x4:w1.cell? ⟨w.heap.size,4,none⟩=some (.slice s.s1.1 s.s1.2.1 s.s1.2.2):=Rf;have x5:w1.cell? ⟨w.heap.size,5,none⟩=some (.slice s.s2.1 s.s2.2.1 s.s2.2.2):=Rf;have x6:w1.cell? ⟨w.heap.size,6,none⟩=some (.slice s.s3.1 s.s3.2.1 s.s3.2.2):=Rf;have x7:w1.cell? ⟨w.heap.size,7,none⟩=some (.string (Y s.c0)):=Rf;have x8:w1.cell? ⟨w.heap.size,8,none⟩=some (U s.c1):=Rf;have x9:w1.cell? ⟨w.heap.size,9,none⟩=some (.bool s.c2):=Rf;have x10:w1.cell? ⟨w.heap.size,10,none⟩=some (.slice s.ns.1 s.ns.2.1 s.ns.2.2):=Rf;have x11:w1.cell? ⟨w.heap.size,11,none⟩=some (.bool s.un):=Rf;have x12:w1.cell? ⟨w.heap.size,12,none⟩=some (.slice s.rs.1 s.rs.2.1 s.rs.2.2):=Rf;have x13:w1.cell? ⟨w.heap.size,13,none⟩=some (.slice s.es.1 s.es.2.1 s.es.2.2):=Rf;have x14:w1.cell? ⟨w.heap.size,14,none⟩=some (U s.wo):=Rf;have x15:w1.cell? ⟨w.heap.size,15,none⟩=some (.string (Y s.wt)):=Rf;have x16:w1.cell? ⟨w.heap.size,16,none⟩=some (.string (Y s.wn)):=Rf;have x17:w1.cell? ⟨w.heap.size,17,none⟩=some (U s.wv.k):=Rf;have x18:w1.cell? ⟨w.heap.size,18,none⟩=some (U s.wv.n):=Rf
 have x19:w1.cell? ⟨w.heap.size,19,none⟩=some (.string s.wv.s):=Rf;have x20:w1.cell? ⟨w.heap.size,20,none⟩=some (.slice s.wa.1 s.wa.2.1 s.wa.2.2):=Rf;have x21:w1.cell? ⟨w.heap.size,21,none⟩=some (.bool s.xd):=Rf;have x22:w1.cell? ⟨w.heap.size,22,none⟩=some (.slice s.xi.1 s.xi.2.1 s.xi.2.2):=Rf;have x23:w1.cell? ⟨w.heap.size,23,none⟩=some (.slice s.xf.1 s.xf.2.1 s.xf.2.2):=Rf;have x24:w1.cell? ⟨w.heap.size,24,none⟩=some (.slice s.xo.1 s.xo.2.1 s.xo.2.2):=Rf;have x25:w1.cell? ⟨w.heap.size,25,none⟩=some (U s.yo):=Rf;have x26:w1.cell? ⟨w.heap.size,26,none⟩=some (.string (Y s.yt)):=Rf;have x27:w1.cell? ⟨w.heap.size,27,none⟩=some (.string (Y s.yn)):=Rf;have x28:w1.cell? ⟨w.heap.size,28,none⟩=some (U s.yv.k):=Rf;have x29:w1.cell? ⟨w.heap.size,29,none⟩=some (U s.yv.n):=Rf;have x30:w1.cell? ⟨w.heap.size,30,none⟩=some (.string s.yv.s):=Rf;have x31:w1.cell? ⟨w.heap.size,31,none⟩=some (.slice s.ya.1 s.ya.2.1 s.ya.2.2):=Rf;have x32:w1.cell? ⟨w.heap.size,32,none⟩=some (.slice s.xg.1 s.xg.2.1 s.xg.2.2):=Rf;have x33:w1.cell? ⟨w.heap.size,33,none⟩=some (.slice s.xs.1 s.xs.2.1 s.xs.2.2):=Rf;have x34:w1.cell? ⟨w.heap.size,34,none⟩=some (U s.xl):=Rf;have x35:w1.cell? ⟨w.heap.size,35,none⟩=some (U s.md):=Rf;have hy:=S.out.blk 0 rfl;have y0:w1.cell? ⟨w.heap.size+1,0,none⟩=some (U r.k):=Xr;have y1:w1.cell? ⟨w.heap.size+1,1,none⟩=some (.string (Y r.tb)):=Xr;have y2:w1.cell? ⟨w.heap.size+1,2,none⟩=some (.string (Y r.nm)):=Xr
 have y3:w1.cell? ⟨w.heap.size+1,3,none⟩=some (.string (Y r.s0)):=Xr;have y4:w1.cell? ⟨w.heap.size+1,4,none⟩=some (.slice r.s1.1 r.s1.2.1 r.s1.2.2):=Xr;have y5:w1.cell? ⟨w.heap.size+1,5,none⟩=some (.slice r.s2.1 r.s2.2.1 r.s2.2.2):=Xr;have y6:w1.cell? ⟨w.heap.size+1,6,none⟩=some (.slice r.s3.1 r.s3.2.1 r.s3.2.2):=Xr;have y7:w1.cell? ⟨w.heap.size+1,7,none⟩=some (.string (Y r.c0)):=Xr;have y8:w1.cell? ⟨w.heap.size+1,8,none⟩=some (U r.c1):=Xr;have y9:w1.cell? ⟨w.heap.size+1,9,none⟩=some (.bool r.c2):=Xr;have y10:w1.cell? ⟨w.heap.size+1,10,none⟩=some (.slice r.ns.1 r.ns.2.1 r.ns.2.2):=Xr;have y11:w1.cell? ⟨w.heap.size+1,11,none⟩=some (.bool r.un):=Xr;have y12:w1.cell? ⟨w.heap.size+1,12,none⟩=some (.slice r.rs.1 r.rs.2.1 r.rs.2.2):=Xr;have y13:w1.cell? ⟨w.heap.size+1,13,none⟩=some (.slice r.es.1 r.es.2.1 r.es.2.2):=Xr;have y14:w1.cell? ⟨w.heap.size+1,14,none⟩=some (U r.wo):=Xr;have y15:w1.cell? ⟨w.heap.size+1,15,none⟩=some (.string (Y r.wt)):=Xr;have y16:w1.cell? ⟨w.heap.size+1,16,none⟩=some (.string (Y r.wn)):=Xr;have y17:w1.cell? ⟨w.heap.size+1,17,none⟩=some (U r.wv.k):=Xr;have y18:w1.cell? ⟨w.heap.size+1,18,none⟩=some (U r.wv.n):=Xr;have y19:w1.cell? ⟨w.heap.size+1,19,none⟩=some (.string r.wv.s):=Xr;have y20:w1.cell? ⟨w.heap.size+1,20,none⟩=some (.slice r.wa.1 r.wa.2.1 r.wa.2.2):=Xr;have y21:w1.cell? ⟨w.heap.size+1,21,none⟩=some (.bool r.xd):=Xr
 have y22:w1.cell? ⟨w.heap.size+1,22,none⟩=some (.slice r.xi.1 r.xi.2.1 r.xi.2.2):=Xr;have y23:w1.cell? ⟨w.heap.size+1,23,none⟩=some (.slice r.xf.1 r.xf.2.1 r.xf.2.2):=Xr;have y24:w1.cell? ⟨w.heap.size+1,24,none⟩=some (.slice r.xo.1 r.xo.2.1 r.xo.2.2):=Xr;have y25:w1.cell? ⟨w.heap.size+1,25,none⟩=some (U r.yo):=Xr;have y26:w1.cell? ⟨w.heap.size+1,26,none⟩=some (.string (Y r.yt)):=Xr;have y27:w1.cell? ⟨w.heap.size+1,27,none⟩=some (.string (Y r.yn)):=Xr;have y28:w1.cell? ⟨w.heap.size+1,28,none⟩=some (U r.yv.k):=Xr;have y29:w1.cell? ⟨w.heap.size+1,29,none⟩=some (U r.yv.n):=Xr;have y30:w1.cell? ⟨w.heap.size+1,30,none⟩=some (.string r.yv.s):=Xr;have y31:w1.cell? ⟨w.heap.size+1,31,none⟩=some (.slice r.ya.1 r.ya.2.1 r.ya.2.2):=Xr;have y32:w1.cell? ⟨w.heap.size+1,32,none⟩=some (.slice r.xg.1 r.xg.2.1 r.xg.2.2):=Xr;have y33:w1.cell? ⟨w.heap.size+1,33,none⟩=some (.slice r.xs.1 r.xs.2.1 r.xs.2.2):=Xr;have y34:w1.cell? ⟨w.heap.size+1,34,none⟩=some (U r.xl):=Xr;have y35:w1.cell? ⟨w.heap.size+1,35,none⟩=some (U r.md):=Xr;rcases hcase with e0|⟨e0,e1⟩|⟨e0,e1,e2⟩|⟨e0,e1,e2,e3⟩|⟨e0,e1,e2,e3,e4⟩|⟨e0,e1,e2,e3,e4,e5⟩|⟨e0,e1,e2,e3,e4,e5,e6⟩|⟨e0,e1,e2,e3,e4,e5,e6,e7⟩|⟨e0,e1,e2,e3,e4,e5,e6,e7⟩
 ·obtain rfl:bb=false:=Ak HBB.out (fun h=>e0 h.1);exact U2
 ·obtain rfl:bb=false:=Ak HBB.out (fun h=>e1 h.2.1);rw[e0]at x0;clear e0;have g:(s.tb==r.tb)=false:=by simpa using e1
  exact U2
 ·obtain rfl:bb=false:=Ak HBB.out (fun h=>e2 h.2.2.1);rw[e0]at x0;rw[e1]at x1;clear e0 e1;have g:(s.nm==r.nm)=false:=by simpa using e2
  exact U2
 ·obtain rfl:bb=false:=Ak HBB.out (fun h=>e3 h.2.2.2.1);rw[e0]at x0;rw[e1]at x1;rw[e2]at x2;clear e0 e1 e2;exact U2
 ·obtain rfl:bb=false:=Ak HBB.out (fun h=>e4 h.2.2.2.2.1);rw[e0]at x0;rw[e1]at x1;rw[e2]at x2;rw[e3]at x11;clear e0 e1 e2 e3;exact U2
 ·obtain rfl:bb=false:=Ak HBB.out (fun h=>e5 h.2.2.2.2.2.1.1);rw[e0]at x0;rw[e1]at x1;rw[e2]at x2;rw[e3]at x11;rw[e4]at x35;clear e0 e1 e2 e3 e4;have g:(s.c0==r.c0)=false:=by simpa using e5
  exact U2
 ·obtain rfl:bb=false:=Ak HBB.out (fun h=>e6 h.2.2.2.2.2.1.2.1);rw[e0]at x0;rw[e1]at x1;rw[e2]at x2;rw[e3]at x11;rw[e4]at x35;rw[e5]at x7;clear e0 e1 e2 e3 e4 e5;exact U2
 ·obtain rfl:bb=false:=Ak HBB.out (fun h=>e7 h.2.2.2.2.2.1.2.2);rw[e0]at x0;rw[e1]at x1;rw[e2]at x2;rw[e3]at x11;rw[e4]at x35;rw[e5]at x7;rw[e6]at x8;clear e0 e1 e2 e3 e4 e5 e6;exact U2
 ·rw[e0]at x0;rw[e1]at x1;rw[e2]at x2;rw[e3]at x11;rw[e4]at x35;rw[e5]at x7;rw[e6]at x8;rw[e7]at x9;have HE:Hid (s.k=r.k/\s.tb=r.tb/\s.nm=r.nm/\s.un=r.un/\s.md=r.md/\(s.c0=r.c0/\s.c1=r.c1/\s.c2=r.c2)):=⟨e0,e1,e2,e3,e4,e5,e6,e7⟩
  have ZZ:Hid (∀W,Below w1.heap.size w1 W->W.cell? ⟨w.heap.size,10,none⟩=some (.slice s.ns.1 s.ns.2.1 s.ns.2.2)/\W.cell? ⟨w.heap.size+1,10,none⟩=some (.slice r.ns.1 r.ns.2.1 r.ns.2.2)/\W.cell? ⟨w.heap.size,12,none⟩=some (.slice s.rs.1 s.rs.2.1 s.rs.2.2)/\W.cell? ⟨w.heap.size+1,12,none⟩=some (.slice r.rs.1 r.rs.2.1 r.rs.2.2)/\W.cell? ⟨w.heap.size,13,none⟩=some (.slice s.es.1 s.es.2.1 s.es.2.2)/\W.cell? ⟨w.heap.size+1,13,none⟩=some (.slice r.es.1 r.es.2.1 r.es.2.2)/\W.cell? ⟨w.heap.size,14,none⟩=some (U s.wo)/\W.cell? ⟨w.heap.size+1,14,none⟩=some (U r.wo)/\W.cell? ⟨w.heap.size,15,none⟩=some (.string (Y s.wt))/\W.cell? ⟨w.heap.size+1,15,none⟩=some (.string (Y r.wt))/\W.cell? ⟨w.heap.size,16,none⟩=some (.string (Y s.wn))/\W.cell? ⟨w.heap.size+1,16,none⟩=some (.string (Y r.wn))/\W.cell? ⟨w.heap.size,17,none⟩=some (U s.wv.k)/\W.cell? ⟨w.heap.size+1,17,none⟩=some (U r.wv.k)/\W.cell? ⟨w.heap.size,18,none⟩=some (U s.wv.n)/\W.cell? ⟨w.heap.size+1,18,none⟩=some (U r.wv.n)/\W.cell? ⟨w.heap.size,19,none⟩=some (.string s.wv.s)/\W.cell? ⟨w.heap.size+1,19,none⟩=some (.string r.wv.s)/\W.cell? ⟨w.heap.size,20,none⟩=some (.slice s.wa.1 s.wa.2.1 s.wa.2.2)/\W.cell? ⟨w.heap.size+1,20,none⟩=some (.slice r.wa.1 r.wa.2.1 r.wa.2.2)/\W.cell? ⟨w.heap.size,21,none⟩=some (.bool s.xd)/\W.cell? ⟨w.heap.size+1,21,none⟩=some (.bool r.xd)/\W.cell? ⟨w.heap.size,22,none⟩=some (.slice s.xi.1 s.xi.2.1 s.xi.2.2)/\W.cell? ⟨w.heap.size+1,22,none⟩=some (.slice r.xi.1 r.xi.2.1 r.xi.2.2)/\W.cell? ⟨w.heap.size,23,none⟩=some (.slice s.xf.1 s.xf.2.1 s.xf.2.2)/\W.cell? ⟨w.heap.size+1,23,none⟩=some (.slice r.xf.1 r.xf.2.1 r.xf.2.2)/\W.cell? ⟨w.heap.size,24,none⟩=some (.slice s.xo.1 s.xo.2.1 s.xo.2.2)/\W.cell? ⟨w.heap.size+1,24,none⟩=some (.slice r.xo.1 r.xo.2.1 r.xo.2.2)/\W.cell? ⟨w.heap.size,25,none⟩=some (U s.yo)/\W.cell? ⟨w.heap.size+1,25,none⟩=some (U r.yo)/\W.cell? ⟨w.heap.size,26,none⟩=some (.string (Y s.yt))/\W.cell? ⟨w.heap.size+1,26,none⟩=some (.string (Y r.yt))/\W.cell? ⟨w.heap.size,27,none⟩=some (.string (Y s.yn))/\W.cell? ⟨w.heap.size+1,27,none⟩=some (.string (Y r.yn))/\W.cell? ⟨w.heap.size,28,none⟩=some (U s.yv.k)/\W.cell? ⟨w.heap.size+1,28,none⟩=some (U r.yv.k)/\W.cell? ⟨w.heap.size,29,none⟩=some (U s.yv.n)/\W.cell? ⟨w.heap.size+1,29,none⟩=some (U r.yv.n)/\W.cell? ⟨w.heap.size,30,none⟩=some (.string s.yv.s)/\W.cell? ⟨w.heap.size+1,30,none⟩=some (.string r.yv.s)/\W.cell? ⟨w.heap.size,31,none⟩=some (.slice s.ya.1 s.ya.2.1 s.ya.2.2)/\W.cell? ⟨w.heap.size+1,31,none⟩=some (.slice r.ya.1 r.ya.2.1 r.ya.2.2)/\W.cell? ⟨w.heap.size,32,none⟩=some (.slice s.xg.1 s.xg.2.1 s.xg.2.2)/\W.cell? ⟨w.heap.size+1,32,none⟩=some (.slice r.xg.1 r.xg.2.1 r.xg.2.2)/\W.cell? ⟨w.heap.size,33,none⟩=some (.slice s.xs.1 s.xs.2.1 s.xs.2.2)/\W.cell? ⟨w.heap.size+1,33,none⟩=some (.slice r.xs.1 r.xs.2.1 r.xs.2.2)/\W.cell? ⟨w.heap.size,34,none⟩=some (U s.xl)/\W.cell? ⟨w.heap.size+1,34,none⟩=some (U r.xl)):=fun W hW=>⟨hW.cell_kept x10,hW.cell_kept y10,hW.cell_kept x12,hW.cell_kept y12,hW.cell_kept x13,hW.cell_kept y13,hW.cell_kept x14,hW.cell_kept y14,hW.cell_kept x15,hW.cell_kept y15,hW.cell_kept x16,hW.cell_kept y16,hW.cell_kept x17,hW.cell_kept y17,hW.cell_kept x18,hW.cell_kept y18,hW.cell_kept x19,hW.cell_kept y19,hW.cell_kept x20,hW.cell_kept y20,hW.cell_kept x21,hW.cell_kept y21,hW.cell_kept x22,hW.cell_kept y22,hW.cell_kept x23,hW.cell_kept y23,hW.cell_kept x24,hW.cell_kept y24,hW.cell_kept x25,hW.cell_kept y25,hW.cell_kept x26,hW.cell_kept y26,hW.cell_kept x27,hW.cell_kept y27,hW.cell_kept x28,hW.cell_kept y28,hW.cell_kept x29,hW.cell_kept y29,hW.cell_kept x30,hW.cell_kept y30,hW.cell_kept x31,hW.cell_kept y31,hW.cell_kept x32,hW.cell_kept y32,hW.cell_kept x33,hW.cell_kept y33,hW.cell_kept x34,hW.cell_kept y34⟩
  clear e0 e1 e2 e3 e4 e5 e6 e7;go_wp2_with fail;refine tp (C.out _ S.out.below) ?_;rintro e w2 ⟨rfl,hb⟩;have S:=tm (S.out.kept hb);have HB:=tm hb;clear hb x0 x1 x2 x3 x4 x5 x6 x7 x8 x9 x10 x11 x12 x13 x14 x15 x16 x17 x18 x19 x20 x21 x22 x23 x24 x25 x26 x27 x28 x29 x30 x31 x32 x33 x34 x35 y0 y1 y2 y3 y4 y5 y6 y7 y8 y9 y10 y11 y12 y13 y14 y15 y16 y17 y18 y19 y20 y21 y22 y23 y24 y25 y26 y27 y28 y29 y30 y31 y32 y33 y34 y35 hx hy C
  cases q with
  | false=>
   obtain rfl:bb=false:=Ak HBB.out (fun h=>absurd (h.2.2.2.2.2.2.1) acy);exact z1033
  | true=>
  obtain⟨x10,y10,x12,y12,x13,y13,x14,y14,x15,y15,x16,y16,x17,y17,x18,y18,x19,y19,x20,y20,x21,y21,x22,y22,x23,y23,x24,y24,x25,y25,x26,y26,x27,y27,x28,y28,x29,y29,x30,y30,x31,y31,x32,y32,x33,y33,x34,y34⟩:=ZZ.out _ HB.out;go_wp2_with fail;refine tp (C2.out _ S.out.below) ?_;rintro e w3 ⟨rfl,hb⟩;replace S:=tm (S.out.kept hb);replace HB:=tm (HB.out.step hb);clear hb x10 y10 x12 y12 x13 y13 x14 y14 x15 y15 x16 y16 x17 y17 x18 y18 x19 y19 x20 y20 x21 y21 x22 y22 x23 y23 x24 y24 x25 y25 x26 y26 x27 y27 x28 y28 x29 y29 x30 y30 x31 y31 x32 y32 x33 y33 x34 y34 C2
  cases q2 with
  | false=>
   obtain rfl:bb=false:=Ak HBB.out (fun h=>absurd (h.2.2.2.2.2.2.2.1) acy);exact z1033
  | true=>
  obtain⟨x10,y10,x12,y12,x13,y13,x14,y14,x15,y15,x16,y16,x17,y17,x18,y18,x19,y19,x20,y20,x21,y21,x22,y22,x23,y23,x24,y24,x25,y25,x26,y26,x27,y27,x28,y28,x29,y29,x30,y30,x31,y31,x32,y32,x33,y33,x34,y34⟩:=ZZ.out _ HB.out;go_wp2_with fail;refine tp (C3.out _ S.out.below) ?_;rintro e w4 ⟨rfl,hb⟩;replace S:=tm (S.out.kept hb);replace HB:=tm (HB.out.step hb);clear hb x10 y10 x12 y12 x13 y13 x14 y14 x15 y15 x16 y16 x17 y17 x18 y18 x19 y19 x20 y20 x21 y21 x22 y22 x23 y23 x24 y24 x25 y25 x26 y26 x27 y27 x28 y28 x29 y29 x30 y30 x31 y31 x32 y32 x33 y33 x34 y34 C3
  cases q3 with
  | false=>
   obtain rfl:bb=false:=Ak HBB.out (fun h=>absurd (h.2.2.2.2.2.2.2.2.1) acy);exact z1033
  | true=>
  obtain⟨x10,y10,x12,y12,x13,y13,x14,y14,x15,y15,x16,y16,x17,y17,x18,y18,x19,y19,x20,y20,x21,y21,x22,y22,x23,y23,x24,y24,x25,y25,x26,y26,x27,y27,x28,y28,x29,y29,x30,y30,x31,y31,x32,y32,x33,y33,x34,y34⟩:=ZZ.out _ HB.out;go_wp2_with fail;refine tp (C4.out _ S.out.below) ?_;rintro e w5 ⟨rfl,hb⟩;replace S:=tm (S.out.kept hb);replace HB:=tm (HB.out.step hb);clear hb x10 y10 x12 y12 x13 y13 x14 y14 x15 y15 x16 y16 x17 y17 x18 y18 x19 y19 x20 y20 x21 y21 x22 y22 x23 y23 x24 y24 x25 y25 x26 y26 x27 y27 x28 y28 x29 y29 x30 y30 x31 y31 x32 y32 x33 y33 x34 y34 C4
  cases q4 with
  | false=>
   obtain rfl:bb=false:=Ak HBB.out (fun h=>absurd (h.2.2.2.2.2.2.2.2.2.1) acy);exact z1033
  | true=>
  obtain⟨x10,y10,x12,y12,x13,y13,x14,y14,x15,y15,x16,y16,x17,y17,x18,y18,x19,y19,x20,y20,x21,y21,x22,y22,x23,y23,x24,y24,x25,y25,x26,y26,x27,y27,x28,y28,x29,y29,x30,y30,x31,y31,x32,y32,x33,y33,x34,y34⟩:=ZZ.out _ HB.out;go_wp2_with fail;refine tp (C5.out _ S.out.below) ?_;rintro e w6 ⟨rfl,hb⟩;replace S:=tm (S.out.kept hb);replace HB:=tm (HB.out.step hb);clear hb x10 y10 x12 y12 x13 y13 x14 y14 x15 y15 x16 y16 x17 y17 x18 y18 x19 y19 x20 y20 x21 y21 x22 y22 x23 y23 x24 y24 x25 y25 x26 y26 x27 y27 x28 y28 x29 y29 x30 y30 x31 y31 x32 y32 x33 y33 x34 y34 C5
  cases q5 with
  | false=>
   obtain rfl:bb=false:=Ak HBB.out (fun h=>absurd (h.2.2.2.2.2.2.2.2.2.2.1) acy);exact z1033
  | true=>
  obtain⟨x10,y10,x12,y12,x13,y13,x14,y14,x15,y15,x16,y16,x17,y17,x18,y18,x19,y19,x20,y20,x21,y21,x22,y22,x23,y23,x24,y24,x25,y25,x26,y26,x27,y27,x28,y28,x29,y29,x30,y30,x31,y31,x32,y32,x33,y33,x34,y34⟩:=ZZ.out _ HB.out;go_wp2_with fail;refine tp (C6.out _ S.out.below) ?_;rintro e w7 ⟨rfl,hb⟩;replace S:=tm (S.out.kept hb);replace HB:=tm (HB.out.step hb);clear hb x10 y10 x12 y12 x13 y13 x14 y14 x15 y15 x16 y16 x17 y17 x18 y18 x19 y19 x20 y20 x21 y21 x22 y22 x23 y23 x24 y24 x25 y25 x26 y26 x27 y27 x28 y28 x29 y29 x30 y30 x31 y31 x32 y32 x33 y33 x34 y34 C6;obtain rfl:bb=q6:=by
   cases q6 with
   | false=>exact Ak HBB.out (fun h=>absurd (h.2.2.2.2.2.2.2.2.2.2.2) acy)
   | true=>exact HBB.out.2 ⟨HE.out.1,HE.out.2.1,HE.out.2.2.1,HE.out.2.2.2.1,HE.out.2.2.2.2.1,HE.out.2.2.2.2.2,by trivial,by trivial,by trivial,by trivial,by trivial,by trivial⟩
  go_wp2_with fail;go_returns;exact⟨rfl,S.out.below⟩
end
theorem N3 {e:Ex} (h:condR e=true):e.ok:=by
 simp only[condR,vy]at h;rcases h with h|h
 ·exact .inr (isZero_eq h)
 ·exact .inl (Ay h)
theorem Br:Sel.zero.Nice:=⟨by decide,by simp[Sel.zero],by decide,by decide,by simp[Sel.zero],.inr rfl,by decide,by simp[Sel.zero],by decide⟩
theorem ak {x:Sel} (h:x.chosen=true):x.Nice:=by
 simp only[Sel.chosen,tr,uk]at h;obtain⟨⟨⟨⟨⟨⟨⟨h1,h2⟩,h3⟩,h4⟩,h5⟩,h6⟩,h7⟩,h8⟩:=h;have a:=Ai h1;have a2:=Ai h2;have a3:=Ai h3;have a5:=Ai h5;have a6:=Ai h6;refine⟨by omega,fun p hp=>?_,by omega,by omega,fun e he=>Ay (a3.2.2 e he),N3 h4,by omega,fun e he=>?_,by omega⟩
 ·have:=a.2.2 p hp;simp only[Pk.picked]at this;split at this
  ·exact .inr (isZero_eq this)
  ·simp only[tr]at this;exact .inl (Ay this.2)
 ·have:=a5.2.2 e he;simp only[groupOk,tr]at this;exact Ay this.2
theorem Wm {r:List V} (h:rowOk r=true):r.length<=4611686018427387904:=by
 have:=Ai h;omega
theorem Ji {x:Stm} (h:x.formed=true):x.Nice:=by
 have hk:=Bz h;obtain⟨k,tb,nm,sch,col,names,u,rows,exprs,wh,sel,mode⟩:=x;simp only at hk;have hkk:k=1\/k=2\/k=3\/k=4\/k=5\/k=6\/k=7\/k=8\/k=9\/k=10\/k=11\/k=12\/k=13\/k=14:=acw;have key:∀(sch:Tbl) (names:List Bytes) (rows:List (List V)) (exprs:List Ex) (wh:Ex) (sel:Sel),sch.indexes=[]->(sch.cols.length<=4611686018427387904/\sch.checks.length<=4611686018427387904)->names.length<=4611686018427387904 ->
  (rows.length<=4611686018427387904/\∀r∈rows,r.length<=4611686018427387904)->(exprs.length<=4611686018427387904/\∀e∈exprs,e.formed=true)->wh.ok->sel.Nice->(Stm.mk k tb nm sch col names u rows exprs wh sel mode).Nice:=
  fun _ _ _ _ _ _ h1 h2 h3 h4 h5 h6 h7=>⟨h1,h2,h3,h4,h5,h6,h7⟩
 have z:(0:Nat)<=4611686018427387904:=yu _;rcases hkk with rfl|rfl|rfl|rfl|rfl|rfl|rfl|rfl|rfl|rfl|rfl|rfl|rfl|rfl
 ·simp only[Stm.formed,if_true,tr]at h;have hu:=Au h.2;simp only[Stm.zero,Stm.mk.injEq]at hu;obtain⟨_,rfl,rfl,_,rfl,rfl,rfl,rfl,rfl,rfl,rfl,rfl⟩:=hu;have ht:=h.1;simp only[Tbl.tabled,tr,uk]at ht;have a:=Ai ht.1.2;have a:=Ai ht.2;exact key _ _ _ _ _ _ (ut ht.1.1.2) ⟨by omega,by omega⟩ z ⟨z,by simp⟩ ⟨z,by simp⟩ (.inr rfl) Br
 ·simp only[Stm.formed,if_true,if_neg (show(2:Int)≠1 by decide),tr]at h;have hu:=Au h.2;simp only[Stm.zero,Stm.mk.injEq]at hu;obtain⟨_,_,rfl,rfl,rfl,rfl,rfl,rfl,rfl,rfl,rfl,rfl⟩:=hu;exact mc
 ·simp only[Stm.formed,if_true,if_neg (show(3:Int)≠1 by decide),if_neg (show(3:Int)≠2 by decide),tr]at h;have hu:=Au h.2;simp only[Stm.zero,Stm.mk.injEq]at hu;obtain⟨_,_,rfl,rfl,_,rfl,rfl,rfl,rfl,rfl,rfl,rfl⟩:=hu;exact mc
 ·simp only[Stm.formed,if_true,if_neg (show(4:Int)≠1 by decide),if_neg (show(4:Int)≠2 by decide),if_neg (show(4:Int)≠3 by decide),tr]at h;have hu:=Au h.2;simp only[Stm.zero,Stm.mk.injEq]at hu;obtain⟨_,_,_,rfl,rfl,_,_,rfl,rfl,rfl,rfl,rfl⟩:=hu;have a:=Ai h.1.2;exact key _ _ _ _ _ _ rfl ⟨z,z⟩ acw ⟨z,by simp⟩ ⟨z,by simp⟩ (.inr rfl) Br
 ·simp only[Stm.formed,if_true,if_neg (show(5:Int)≠1 by decide),if_neg (show(5:Int)≠2 by decide),if_neg (show(5:Int)≠3 by decide),if_neg (show(5:Int)≠4 by decide),tr]at h;have hu:=Au h.2;simp only[Stm.zero,Stm.mk.injEq]at hu;obtain⟨_,_,_,rfl,rfl,rfl,rfl,rfl,rfl,rfl,rfl,rfl⟩:=hu;exact mc
 ·simp only[Stm.formed,if_true,if_neg (show(6:Int)≠1 by decide),if_neg (show(6:Int)≠2 by decide),if_neg (show(6:Int)≠3 by decide),if_neg (show(6:Int)≠4 by decide),if_neg (show(6:Int)≠5 by decide),tr]at h;have hu:=Au h.2;simp only[Stm.zero,Stm.mk.injEq]at hu;obtain⟨_,_,rfl,rfl,rfl,rfl,rfl,_,rfl,rfl,rfl,rfl⟩:=hu;have a:=Ai h.1.1;exact key _ _ _ _ _ _ rfl ⟨z,z⟩ z ⟨by omega,fun r hr=>Wm (a.2.2 r hr)⟩ ⟨z,by simp⟩ (.inr rfl) Br
 ·simp only[Stm.formed,if_true,if_neg (show(7:Int)≠1 by decide),if_neg (show(7:Int)≠2 by decide),if_neg (show(7:Int)≠3 by decide),if_neg (show(7:Int)≠4 by decide),if_neg (show(7:Int)≠5 by decide),if_neg (show(7:Int)≠6 by decide),tr]at h;have hu:=Au h.2;simp only[Stm.zero,Stm.mk.injEq]at hu;obtain⟨_,_,rfl,rfl,rfl,_,rfl,rfl,_,_,rfl,rfl⟩:=hu;have a:=Ai h.1.1.1.1;have a3:=Ai h.1.1.2;exact key _ _ _ _ _ _ rfl ⟨z,z⟩ acw ⟨z,by simp⟩ ⟨by omega,fun e he=>Ay (a.2.2 e he)⟩ (N3 h.1.2) Br
 ·simp only[Stm.formed,if_true,if_neg (show(8:Int)≠1 by decide),if_neg (show(8:Int)≠2 by decide),if_neg (show(8:Int)≠3 by decide),if_neg (show(8:Int)≠4 by decide),if_neg (show(8:Int)≠5 by decide),if_neg (show(8:Int)≠6 by decide),if_neg (show(8:Int)≠7 by decide),tr]at h;have hu:=Au h.2;simp only[Stm.zero,Stm.mk.injEq]at hu;obtain⟨_,_,rfl,rfl,rfl,rfl,rfl,rfl,rfl,_,rfl,rfl⟩:=hu;exact key _ _ _ _ _ _ rfl ⟨z,z⟩ z ⟨z,by simp⟩ ⟨z,by simp⟩ (N3 h.1.2) Br
 ·simp only[Stm.formed,if_true,if_neg (show(9:Int)≠1 by decide),if_neg (show(9:Int)≠2 by decide),if_neg (show(9:Int)≠3 by decide),if_neg (show(9:Int)≠4 by decide),if_neg (show(9:Int)≠5 by decide),if_neg (show(9:Int)≠6 by decide),if_neg (show(9:Int)≠7 by decide),if_neg (show(9:Int)≠8 by decide),tr]at h;have hu:=Au h.2;simp only[Stm.zero,Stm.mk.injEq]at hu;obtain⟨_,rfl,rfl,rfl,rfl,rfl,rfl,rfl,rfl,rfl,_,rfl⟩:=hu;exact key _ _ _ _ _ _ rfl ⟨z,z⟩ z ⟨z,by simp⟩ ⟨z,by simp⟩ (.inr rfl) (ak h.1)
 ·simp only[Stm.formed,if_true,if_neg (show(10:Int)≠1 by decide),if_neg (show(10:Int)≠2 by decide),if_neg (show(10:Int)≠3 by decide),if_neg (show(10:Int)≠4 by decide),if_neg (show(10:Int)≠5 by decide),if_neg (show(10:Int)≠6 by decide),if_neg (show(10:Int)≠7 by decide),if_neg (show(10:Int)≠8 by decide),if_neg (show(10:Int)≠9 by decide),tr]at h;have hu:=Au h.2;simp only[Stm.zero,Stm.mk.injEq]at hu;obtain⟨_,rfl,rfl,rfl,rfl,rfl,rfl,rfl,rfl,rfl,rfl,_⟩:=hu;exact mc
 ·have hx:Stm.unused ⟨11,tb,nm,sch,col,names,u,rows,exprs,wh,sel,mode⟩=true:=h;have hu:=Au hx;simp only[Stm.zero,Stm.mk.injEq]at hu;obtain⟨_,rfl,rfl,rfl,rfl,rfl,rfl,rfl,rfl,rfl,rfl,rfl⟩:=hu;exact mc
 ·have hx:(if nm=[]then Stm.unused ⟨12,tb,nm,sch,col,names,u,rows,exprs,wh,sel,mode⟩else isName nm&&Stm.unused ⟨12,tb,[],sch,col,names,u,rows,exprs,wh,sel,mode⟩)=true:=h;by_cases hnm:nm=[]
  ·subst hnm;rw[if_pos rfl]at hx;have hu:=Au hx;exact mo
  ·rw[if_neg hnm]at hx;exact z97
 ·have hx:(isName nm&&Stm.unused ⟨13,tb,[],sch,col,names,u,rows,exprs,wh,sel,mode⟩)=true:=h;exact z97
 ·have hx:(isName nm&&Stm.unused ⟨14,tb,[],sch,col,names,u,rows,exprs,wh,sel,mode⟩)=true:=h;exact z97
theorem T5 {x:Stm} (h:x.formed=true):x.schema.indexes=[]:=(Ji h).ix
end Go.Proofs.YtimoefagohifaaaGreatDoor
