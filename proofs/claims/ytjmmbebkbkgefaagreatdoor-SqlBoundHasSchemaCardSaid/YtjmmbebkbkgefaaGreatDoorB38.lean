/- Part 38; the last part says what is proved. No condition. -/
import Derived.Test.YtjmmbebkbkgefaaGreatDoorB37
set_option linter.unusedVariables false
set_option linter.unusedSimpArgs false
set_option maxHeartbeats 32000000
set_option maxRecDepth 100000
namespace Go.Proofs.YtjmmbebkbkgefaaGreatDoor
open Go.RowKit Go.Sort Go.Proofs.Tryz
theorem Ms (a b:Option Addr) (c d:Nat) (w:World):Calls prog 94 #[.slice a 0 c,.slice b 0 d] w (Says (.bool true) w):=by
 have S:=Lib.hid (St.start w);go_enter func94,ntmps94;go_wp2_with fail;go_loopw [5,6] (fun iv _ wr=>iv=.int .i64 0/\wr=w) (fun _ _ _=>0)
 case atStart=>exact⟨rfl,rfl⟩
 case round=>
  obtain⟨rfl,rfl⟩:=hrel;go_wp2_with fail;go_returns;exact⟨rfl,Below.refl _ _⟩
theorem Mt (a b:Option Addr) (c d:Nat) (w:World):Calls prog 95 #[.slice a 0 c,.slice b 0 d] w (Says (.bool true) w):=by
 go_enter func95,ntmps95;go_wp2_with fail;go_loopw [5] (fun iv wr=>iv=.int .i64 0/\wr=w) (fun _ _=>0)
 case atStart=>exact⟨rfl,rfl⟩
 case round=>
  obtain⟨rfl,rfl⟩:=hrel;go_wp2_with fail;go_returns;exact⟨rfl,Below.refl _ _⟩
def zArr (a2 a8 a9 a10 a11 a12:Option Addr×Nat):Array Value:=#[.int .i64 0,.string ⟨#[]⟩,.slice a2.1 0 a2.2,.int .i64 0,.int .i64 0,.int .i64 0,.int .i64 0,.string ⟨#[]⟩,.slice a8.1 0 a8.2,.slice a9.1 0 a9.2,.slice a10.1 0 a10.2,.slice a11.1 0 a11.2,.slice a12.1 0 a12.2,.int .i64 0]
theorem Y8 {Q:Nat->Prop} {w:World} {v:QV} (h:QyIn Q w Qy.zero v.arr.toList):∃a2 a8 a9 a10 a11 a12,v.arr=zArr a2 a8 a9 a10 a11 a12:=by
 obtain⟨sa,sc,xa,xc,ca,cc,ga,gc,aa,ac,oa,oc,e,_⟩:=Bl (show QyIn Q w (.mk 0 [] [] (.mk 0 0 V.null []) [] [] [] [] 0) v.arr.toList from h);refine⟨(sa,sc),(xa,xc),(ca,cc),(ga,gc),(aa,ac),(oa,oc),?_⟩;have:=congrArg List.toArray e;rw[Array.toArray_toList]at this;rw[this];rfl
theorem Nf (a b:Option Addr) (c d:Nat) (w:World):Calls prog 11 #[.agg #[.int .i64 0,.int .i64 0,.int .i64 0,.int .i64 0,.string ⟨#[]⟩,.slice a 0 c],.agg #[.int .i64 0,.int .i64 0,.int .i64 0,.int .i64 0,.string ⟨#[]⟩,.slice b 0 d]] w (Says (.bool true) w):=by
 refine Dm (fun _=>True) (fun _=>True) (.mk 0 0 V.null []) ⟨by simp,trivial⟩ _ _ w (Ai.2 ⟨_,rfl,⟨[],⟨a,c,rfl,Nat.zero_le _,fun h=>absurd h (by simp)⟩,rfl⟩⟩) (Ai.2 ⟨_,rfl,⟨[],⟨b,d,rfl,Nat.zero_le _,fun h=>absurd h (by simp)⟩,rfl⟩⟩)
theorem K0 (a2 a8 a9 a10 a11 a12 b2 b8 b9 b10 b11 b12:Option Addr×Nat) (w:World):Calls prog 48 #[.agg (zArr a2 a8 a9 a10 a11 a12),.agg (zArr b2 b8 b9 b10 b11 b12)] w (Says (.bool true) w):=by
 unfold zArr;have S:=Lib.hid (St.alloc (St.alloc (St.start w) (cs:=zArr a2 a8 a9 a10 a11 a12) (t:=59)) (cs:=zArr b2 b8 b9 b10 b11 b12) (t:=59));unfold zArr at S;simp only[World.size_alloc]at S;go_enter func48,ntmps48;go_upto_region 1 with fail;refine Af (fun W=>St w W _) S.out ?_;clear S;intro w1 S1';have S1:=Lib.hid S1';clear S1';have F1:=S1.out.facts;simp only[St.Facts,cellFacts,apartFacts,and_true]at F1;go_wp2_with fail;go_loopw [5] (fun iv wr=>iv=.int .i64 0/\wr=w1) (fun _ _=>0)
 case atStart=>exact⟨rfl,rfl⟩
 case round=>
  obtain⟨rfl,rfl⟩:=hrel;go_wp2_with fail;go_loopw [6] (fun iv wx=>iv=.int .i64 0/\wx=wr) (fun _ _=>0)
  case atStart=>exact⟨rfl,rfl⟩
  case round=>
   obtain⟨rfl,rfl⟩:=hrel;go_wp2_with fail;refine Calls.mono (Nf _ _ _ _ _) ?_;rintro e w2 ⟨rfl,hb2⟩;have S2:=Lib.hid (S1.out.kept hb2);clear hb2 F1 S1;have F2:=S2.out.facts;simp only[St.Facts,cellFacts,apartFacts,and_true]at F2;go_wp2_with fail;refine Calls.mono (Ms _ _ _ _ _) ?_;rintro e w3 ⟨rfl,hb3⟩;have S3:=Lib.hid (S2.out.kept hb3);clear hb3 F2 S2;have F3:=S3.out.facts;simp only[St.Facts,cellFacts,apartFacts,and_true]at F3;go_wp2_with fail;refine Calls.mono (Mt _ _ _ _ _) ?_;rintro e w4 ⟨rfl,hb4⟩;have S4:=Lib.hid (S3.out.kept hb4);clear hb4 F3 S3;go_wp2_with fail;go_returns;exact⟨rfl,S4.out.below⟩
theorem N7 (a2 a8 a9 a10 a11 a12 b2 b8 b9 b10 b11 b12:Option Addr×Nat) (w:World):Calls prog 13 #[.agg (zArr a2 a8 a9 a10 a11 a12),.agg (zArr b2 b8 b9 b10 b11 b12)] w (Says (.bool true) w):=by
 have CN:=Lib.hid (fun W=>K0 a2 a8 a9 a10 a11 a12 b2 b8 b9 b10 b11 b12 W);unfold zArr at CN ⊢;have S:=Lib.hid (St.alloc (St.alloc (St.start w) (cs:=zArr a2 a8 a9 a10 a11 a12) (t:=59)) (cs:=zArr b2 b8 b9 b10 b11 b12) (t:=59));unfold zArr at S;simp only[World.size_alloc]at S;go_enter func13,ntmps13;go_upto_region 1 with fail;refine Af (fun W=>St w W _) S.out ?_;clear S;intro w1 S1';have S1:=Lib.hid S1';clear S1';have F1:=S1.out.facts;simp only[St.Facts,cellFacts,apartFacts,and_true]at F1;go_wp2_with fail;refine Calls.mono (CN.out _) ?_;rintro e w2 ⟨rfl,hb2⟩;have S2:=Lib.hid (S1.out.kept hb2);clear hb2 F1 S1 CN;have F2:=S2.out.facts;simp only[St.Facts,cellFacts,apartFacts,and_true]at F2;go_wp2_with fail;go_loopw [6,7] (fun iv _ wx=>iv=.int .i64 0/\wx=w2) (fun _ _ _=>0)
 case atStart=>exact⟨rfl,rfl⟩
 case round=>
  obtain⟨rfl,rfl⟩:=hrel;go_wp2_with fail;go_returns;exact⟨rfl,S2.out.below⟩
theorem Y0 {db:List Tbl} {x:Sel} (h:(bindY schemaQ db x).2≠0):(bindY schemaQ db x).1=Qy.zero:=by
 rw[Ku]at h ⊢;unfold bdA at h ⊢
 cases hs:scopeY db [] x.from_ with
 | error e=>rfl
 | ok sc=>
  rw[hs]at h;simp only at h ⊢;unfold bdB at h ⊢;by_cases hc:(if(boundY sc x).2=0 then(schemaQ db (boundY sc x).1).2 else(boundY sc x).2)=0
  ·rw[if_pos hc]at h;exact absurd rfl h
  ·rw[if_neg hc]
theorem Ip (db:List Tbl):∀(l:List Bytes) (n:Bytes),colsOf db (l++[n])=colsOf db l+((db.find? fun t=>t.name==n).map (·.cols.length)).getD 0
 | [],n=>by unfold colsOf colsOf;simp
 | a::l,n=>by rw[List.cons_append];unfold colsOf;rw[Ip db l n];omega
theorem Mb {db:List Tbl} (hdb:∀t∈db,t.cols.length<=20):∀l:List Bytes,colsOf db l<=20 * l.length
 | []=>by simp[colsOf]
 | a::l=>by
  have h:=Mb hdb l;unfold colsOf
  cases hf:db.find? (fun t=>t.name==a)with
  | none=>simp only[Option.map_none,Option.getD_none,List.length_cons];omega
  | some t=>
   have:=hdb t (List.mem_of_find?_eq_some hf);simp only[Option.map_some,Option.getD_some,List.length_cons];omega
theorem Xy (HS:SanityAt) (CK:∀x:Sel,x.Wf->x.lists<=4611686018427387904->CheckAt (selE x)) {B:Nat} (db:List Tbl) (x:Sel) (dv xv:Value) (w:World) (he:Env B w) (hd:RSl tblE (fun _=>True) w dv db) (hs:db.length<=4611686018427387904) (hx:RSelQ (fun _=>True) w x xv) (hwf:x.Wf) (hll:x.lists<=4611686018427387904):
 Calls prog 4 #[dv,xv] w (fun e w'=>e=.returned (.bool true)/\Below w.heap.size w w'):=by
 have HE:=Lib.hid he
 have C6:=Lib.hid HS
 have CK9:=Lib.hid (CK x hwf hll)
 have HX:=Lib.hid hx
 obtain⟨ia,ic,fa,fc,oa,oc,wa,wc0,ga,gc,sa,sn,rfl,hxr⟩:=hx
 have HF:=Lib.hid hxr.2.1
 clear hxr
 have CT:=Lib.hid (fun W (hb:Below w.heap.size w W)=>Ji _ db dv W (RSl.kept (by decide) hd hb) hs)
 have CB9:Hid (∀W,Below w.heap.size w W->Calls prog 8 #[.agg #[.int .i64 9,.string ⟨#[]⟩,.string ⟨#[]⟩,.string ⟨#[]⟩,.slice none 0 0,.slice none 0 0,.slice none 0 0,.string ⟨#[]⟩,.int .i64 0,.bool false,.slice none 0 0,.bool false,.slice none 0 0,.slice none 0 0,.int .i64 0,.string ⟨#[]⟩,.string ⟨#[]⟩,.int .i64 0,.int .i64 0,.string ⟨#[]⟩,.slice none 0 0,.bool x.distinct,.slice ia x.items.length ic,.slice fa x.from_.length fc,.slice oa x.on.length oc,.int .i64 x.where_.op,.string ⟨x.where_.table.toArray⟩,.string ⟨x.where_.name.toArray⟩,.int .i64 x.where_.val.k,.int .i64 x.where_.val.n,.string x.where_.val.s,.slice wa x.where_.args.length wc0,.slice ga x.group.length gc,.slice sa x.sort.length sn,.int .i64 x.limit,.int .i64 0]] W (Says (.int .i64 (errF (selE x).formed)) W)):=fun W hb=>CK9.out (fun _=>True) {k:=9,xd:=x.distinct,xi:=(ia,x.items.length,ic),xf:=(fa,x.from_.length,fc),xo:=(oa,x.on.length,oc),yo:=x.where_.op,yt:=x.where_.table,yn:=x.where_.name,yv:=x.where_.val,ya:=(wa,x.where_.args.length,wc0),xg:=(ga,x.group.length,gc),xs:=(sa,x.sort.length,sn),xl:=x.limit} W (Sj ((farSel _ x).move (fun b hl _=>⟨trivial,hb.block b hl⟩) HX.out))
 have HD:=Lib.hid hd
 obtain⟨da,dc,rfl⟩:=hd.slice
 clear he HS CK hd CK9
 go_enter func4,ntmps4
 go_upto_region 1 with fail
 refine St.gen (St.alloc (St.start _)) ?_
 intro w1 S1
 try(simp only[List.set_cons_zero,List.set_cons_succ,List.setIfInBounds_toArray,World.size_alloc]at S1)
 go_wp2_with fail
 refine Calls.mono (C6.out B w1 (HE.out.kept S1.out.below)) ?_
 rintro e w2 ⟨rfl,hb2⟩
 have S2:=Lib.hid (S1.out.kept hb2)
 clear hb2 S1
 have F2:=S2.out.facts
 simp only[St.Facts,cellFacts,apartFacts,and_true]at F2
 cases htb:tablesP db with
 | false=>
  go_wp2_with fail;refine Calls.mono (CT.out _ S2.out.below) ?_;rw[htb];rintro e w3 ⟨rfl,hb3⟩;have S3:=Lib.hid (S2.out.kept hb3);clear hb3 S2 F2;go_wp2_with fail;go_returns;exact⟨rfl,S3.out.below⟩
 | true=>
  have hdl:=(Jj htb).1;have hdc:∀t∈db,t.cols.length<=20:=fun t ht=>by
   unfold tablesP at htb;rw[Bool.and_eq_true,List.all_eq_true]at htb;simpa using htb.1 t ht
  go_wp2_with fail;refine Calls.mono (CT.out _ S2.out.below) ?_;rw[htb];rintro e w3 ⟨rfl,hb3⟩;have S3:=Lib.hid (S2.out.kept hb3);clear hb3 S2 F2;have F3:=S3.out.facts;simp only[St.Facts,cellFacts,apartFacts,and_true]at F3;go_wp2_with fail;refine Calls.mono (CB9.out _ S3.out.below) ?_;rintro e w4 ⟨rfl,hb4⟩;have S4:=Lib.hid (S3.out.kept hb4);clear hb4 S3 F3;have F4:=S4.out.facts;simp only[St.Facts,cellFacts,apartFacts,and_true]at F4
  cases hfm:(selE x).formed with
  | false=>
   simp only[errF];go_wp2_with fail;go_returns;exact⟨rfl,S4.out.below⟩
  | true=>
   simp only[errF];have hok:SelOk x:=Hr (by rw[<- Dp];exact hfm);have hso:∀s∈x.sort,0<=s.place/\s.place<=549755813887:=by
    rw[Dp]at hfm;unfold Sel.chosen allR at hfm;simp only[Bool.and_eq_true,decide_eq_true_eq,List.all_eq_true]at hfm;intro s hs;have:=hfm.1.1.2.2 s hs;unfold Srt.okS at this;simpa using this
   have CB:=Hh db (by omega) hdc x hok.from_.1 hok.from_.2 hok.on.1 (fun e he=>Bb e (good_nd (hok.on.2 e he)).1) (Er hok.wh) hok.group.1 (fun e he=>Bb e (good_nd (hok.group.2 e he).2).1) hok.items.1 (fun it hit=>Cy (hok.items.2 it hit)) hok.sort hso
    (fun sc _ h0=>Cu hdc hok hwf h0) da dc _ w4 (Ad (by decide) (fun b hb _=>⟨Nat.lt_of_lt_of_le hb S4.out.below.size,S4.out.below.block b hb⟩) HD.out) ((farSel _ x).move (fun b hb _=>⟨Nat.lt_of_lt_of_le hb S4.out.below.size,S4.out.below.block b hb⟩) HX.out)
   have HBE:=Lib.hid (@Y0 db x);have HBG:=Lib.hid (@Md db hdc x hok hwf);have hf4:=hok.from_.2;have hf1:=hok.from_.1;have hi16:=hok.items.1;generalize bindY schemaQ db x=br at CB HBE HBG;obtain⟨bq,be⟩:=br;have CB:=Lib.hid CB;clear hok hso hfm htb;go_wp2_with fail;refine Calls.mono CB.out ?_;rintro e w5 ⟨v,rfl,hq5,hb5⟩;have S5:=Lib.hid (S4.out.kept hb5);have HQ5:=Lib.hid hq5;clear hb5 hq5 CB F4 S4;go_upto_region 5 with(refine wpList_store_row rfl 59 (.tmp 6) (.tmp 29) rfl _ v.arr rfl rfl 59 (QV.arr {}) ((St.alloc S5.out).blk 0 rfl) (Ae _) rfl (Ba _) ?_);refine Af (fun W=>St w W [(w5.heap.size,v.arr,59),_]/\QyIn (fun b=>b≠w5.heap.size) W bq v.arr.toList) ⟨St.row 0 v.arr (St.alloc S5.out (cs:=QV.arr {}) (t:=59)) rfl,Ax (fun b hb _=>⟨by omega,(Ap (by omega)).trans (Below.heap_alloc _ _ _ hb)⟩) _ _ HQ5.out⟩ ?_;clear S5 HQ5;rintro w6 ⟨S6',hq6⟩;have S6:=Lib.hid S6';have HQ6:=Lib.hid hq6;clear S6' hq6;generalize w5.heap.size=qb at *;by_cases hbe:be=0
   ·subst hbe;obtain⟨hqg,hsq,hsl⟩:=HBG.out rfl;have CQ:=Hx (fun _=>True) (fun b=>b≠qb) db (by omega) (fun t ht=>by have:=hdc t ht;omega) bq hqg.fine (by have:=hqg.nodes;omega) (.slice da db.length dc) v.arr.toList w6 (RSl.kept (by decide) HD.out S6.out.below) HQ6.out;generalize schemaQ db bq=rs at CQ hsq hsl;obtain⟨rk,re⟩:=rs;simp only at hsq hsl;subst hsq;have CQ:=Lib.hid CQ;have HSL:=Lib.hid hsl;clear hqg hsl HQ6 HBE HBG;go_wp2_with(refine wpList_load_row rfl 59 (.tmp 6) rfl qb rfl 59 v.arr (0,0) _ (S6.out.blk 0 rfl) underlying59 rfl (Ae _) ?_);refine Calls.mono CQ.out ?_;rintro e w7 (⟨_,kv,rfl,hkv,_,hb7⟩|⟨hre,_⟩)
    case inr=>exact absurd rfl hre
    obtain⟨ka,kc,rfl⟩:=hkv.slice;have S7:=Lib.hid (S6.out.kept hb7);clear hkv hb7 S6 CQ;simp only;by_cases hi:0<x.items.length
    ·have hl:=HSL.out;rw[if_pos hi]at hl;generalize rk.length=m at *;subst hl;have hip:(0:Int)<(x.items.length:Int):=by omega
     obtain⟨x1,x1f,x1l⟩:=Aa (o:=1) (S7.out.blk 1 rfl) rfl;go_wp2_with fail;go_returns;exact⟨rfl,S7.out.below⟩
    ·have hl:=HSL.out;rw[if_neg hi]at hl;generalize rk.length=m at *;have hip:¬(0:Int)<(x.items.length:Int):=by omega
     have HM:=Lib.hid hl;obtain⟨fb0,fo,rfl,_,hfc⟩:=Mo HF.out (by omega);have HFC:Hid (∀W,Below w.heap.size w W->∀j s,x.from_[j]?=some s->W.cell? ⟨fb0,fo+j,none⟩=some (.string ⟨s.toArray⟩)):=fun W hW j s hj=>hW.cell_kept (hfc j s hj);obtain⟨x1,x1f,x1l⟩:=Aa (o:=1) (S7.out.blk 1 rfl) rfl;clear hl hfc HSL;go_wp2_with fail;clear x1 x1f x1l;go_loopw [10,11,12,13] (fun nv iv _ _ wr=>∃(i n:Nat),nv=.int .i64 n/\iv=.int .i64 i/\i<=x.from_.length/\Hid (n=colsOf db (x.from_.take i))/\Hid (St w wr [(qb,v.arr,59),(w.heap.size,#[.bool x.distinct,.slice ia x.items.length ic,.slice (some ⟨fb0,fo,none⟩) x.from_.length fc,.slice oa x.on.length oc,.int .i64 x.where_.op,.string ⟨x.where_.table.toArray⟩,.string ⟨x.where_.name.toArray⟩,.int .i64 x.where_.val.k,.int .i64 x.where_.val.n,.string x.where_.val.s,.slice wa x.where_.args.length wc0,.slice ga x.group.length gc,.slice sa x.sort.length sn,.int .i64 x.limit],44)])) (fun _ iv _ _ _=>x.from_.length - (intOf iv).toNat)
     case atStart=>exact⟨0,0,rfl,rfl,by omega,rfl,S7.out⟩
     case round=>
      clear S7;obtain⟨i,n,rfl,rfl,hil,HN,S7⟩:=hrel;have hn80:n<=80:=by
       have h1:=HN.out;have h2:=Mb hdc (x.from_.take i);rw[List.length_take]at h2;omega
      obtain⟨x2,x2f,x2l⟩:=Aa (o:=2) (S7.out.blk 1 rfl) rfl;by_cases hlt:i<x.from_.length
      ·obtain⟨nm,hxi⟩:∃y,x.from_[i]?=some y:=⟨x.from_[i],by simp[hlt]⟩;have hii:(i:Int)<(x.from_.length:Int):=by omega
       have htk:colsOf db (x.from_.take (i+1))=colsOf db (x.from_.take i)+((db.find? fun t=>t.name==nm).map (·.cols.length)).getD 0:=by
        obtain⟨h1,h2⟩:=List.getElem?_eq_some_iff.1 hxi;rw[List.take_succ_eq_append_getElem h1,h2,Ip]
       have HTK:=Lib.hid htk;clear htk;go_wp2_with fail;clear x2 x2f x2l;go_loopw [10,12,13] (fun nv fv kv wx=>∃(k n2:Nat) (fb:Bool),nv=.int .i64 n2/\fv=.bool fb/\kv=.int .i64 k/\k<=db.length/\Hid ((fb=true/\n2=n+((db.find? fun t=>t.name==nm).map (·.cols.length)).getD 0)\/(fb=false/\n2=n/\(db.find? fun t=>t.name==nm)=(db.drop k).find? fun t=>t.name==nm))/\Hid (St w wx [(qb,v.arr,59),(w.heap.size,#[.bool x.distinct,.slice ia x.items.length ic,.slice (some ⟨fb0,fo,none⟩) x.from_.length fc,.slice oa x.on.length oc,.int .i64 x.where_.op,.string ⟨x.where_.table.toArray⟩,.string ⟨x.where_.name.toArray⟩,.int .i64 x.where_.val.k,.int .i64 x.where_.val.n,.string x.where_.val.s,.slice wa x.where_.args.length wc0,.slice ga x.group.length gc,.slice sa x.sort.length sn,.int .i64 x.limit],44)])) (fun _ _ kv _=>db.length - (intOf kv).toNat)
       case atStart=>exact⟨0,n,false,rfl,rfl,rfl,by omega,.inr ⟨rfl,rfl,rfl⟩,S7.out⟩
       case round=>
        clear S7;obtain⟨k,n2,fb,rfl,rfl,rfl,hk,HI,S8⟩:=hrel
        cases fb with
        | true=>
         have hn2:n2=colsOf db (x.from_.take (i+1)):=by
          rw[HTK.out,<- HN.out];rcases HI.out with⟨_,h⟩|⟨h,_⟩
          ·exact h
          ·cases h
         have HN2:=Lib.hid hn2;clear hn2 HI HN HTK;by_cases hkl:k<db.length
         ·have hki:(k:Int)<(db.length:Int):=by omega
          go_wp2_with fail;go_roundw
          case rel=>exact⟨i+1,n2,rfl,by go_num,by omega,HN2.out,S8.out⟩
          case measure=>simp[intOf];omega
         ·have hki:¬(k:Int)<(db.length:Int):=by omega
          go_wp2_with fail;go_roundw
          case rel=>exact⟨i+1,n2,rfl,by go_num,by omega,HN2.out,S8.out⟩
          case measure=>simp[intOf];omega
        | false=>
         obtain⟨rfl,hfd⟩:n2=n/\(db.find? fun t=>t.name==nm)=(db.drop k).find? fun t=>t.name==nm:=by
          rcases HI.out with⟨h,_⟩|⟨_,h⟩
          ·cases h
          ·exact h
         clear HI;by_cases hkl:k<db.length
         ·have hki:(k:Int)<(db.length:Int):=by omega
          obtain⟨t,hxk⟩:∃y,db[k]?=some y:=⟨db[k],by simp[hkl]⟩;have hdr:db.drop k=t::db.drop (k+1):=by
           obtain⟨h1,rfl⟩:=List.getElem?_eq_some_iff.1 hxk;exact List.drop_eq_getElem_cons h1
          rw[hdr]at hfd;have htc:=hdc t (List.mem_of_getElem? hxk);obtain⟨b,o,cap,cs,hbo,hin,hat⟩:=(RSl.kept (by decide) HD.out S8.out.below).at hxk;injection hbo with e1 _ e2;subst e1;subst e2;obtain⟨ca,cc,ja,jc,ka2,kc2,rfl,_⟩:=hin;have t0:=hat 0 _ rfl;have t1:=hat 1 _ rfl;simp only[show tblE.k=4 from rfl,Nat.add_zero]at t0 t1;have t0s:=t0;have t1l:=block_lt_of_cell t1;obtain⟨x2,_,_⟩:=Aa (o:=2) (S8.out.blk 1 rfl) rfl;have y0:=HFC.out _ S8.out.below i nm hxi;replace x2:=cell_regrown x2;replace y0:=cell_regrown y0;replace t0:=cell_regrown t0;clear hdr hat hxk t0s;go_upto_region 18 with fail;refine Ab 11 [(0,false),(1,false),(2,false),(3,false),(4,false),(5,false),(6,false),(7,false),(8,false),(9,false),(10,false)] (by kernel_rfl) (by kernel_rfl) ?_;repeat(refine An rfl (fun K hK=>?_);go_simp;first|(refine hK _ ?_;clear hK K)|(apply Exists.intro;refine⟨fun _=>?_,hK _ ?_⟩;(fail);clear hK K))
          refine A3 ?_;intro w9 hb9 _;have S9:=Lib.hid (S8.out.kept hb9);replace t1:=hb9.cell_kept t1;clear hb9 S8 x2 y0 t0 t1l;have t1l:=block_lt_of_cell t1
          cases hnm:t.name==nm with
          | true=>
           rw[List.find?_cons_of_pos (p:=fun t:Tbl=>t.name==nm) hnm]at hfd;have HI:Hid ((true=true/\n2+t.cols.length=n2+((db.find? fun t=>t.name==nm).map (·.cols.length)).getD 0)\/(true=false/\n2+t.cols.length=n2/\(db.find? fun t=>t.name==nm)=(db.drop (k+1)).find? fun t=>t.name==nm)):=.inl ⟨rfl,by rw[hfd];rfl⟩;clear hfd;go_wp2_with fail;go_roundw
           case rel=>exact⟨k+1,n2+t.cols.length,true,by go_num,rfl,by go_num,by omega,HI.out,S9.out⟩
           case measure=>simp[intOf];omega
          | false=>
           rw[List.find?_cons_of_neg (p:=fun t:Tbl=>t.name==nm) (by simp only[hnm];decide)]at hfd;have HI:Hid ((false=true/\n2=n2+((db.find? fun t=>t.name==nm).map (·.cols.length)).getD 0)\/(false=false/\n2=n2/\(db.find? fun t=>t.name==nm)=(db.drop (k+1)).find? fun t=>t.name==nm)):=.inr ⟨rfl,rfl,hfd⟩;clear hfd;go_wp2_with fail;go_roundw
           case rel=>exact⟨k+1,n2,false,rfl,rfl,by go_num,by omega,HI.out,S9.out⟩
           case measure=>simp[intOf];omega
         ·obtain rfl:k=db.length:=by omega
          rw[List.drop_length]at hfd;have hn2:n2=colsOf db (x.from_.take (i+1)):=by
           rw[HTK.out,<- HN.out,hfd];rfl
          have HN2:=Lib.hid hn2;clear hn2 hfd HTK HN;go_wp2_with fail;go_roundw
          case rel=>exact⟨i+1,n2,rfl,by go_num,by omega,HN2.out,S8.out⟩
          case measure=>simp[intOf];omega
      ·obtain rfl:i=x.from_.length:=by omega
       have hmn:n=m:=by rw[HN.out,HM.out,List.take_length]
       subst hmn;clear HM HN;go_wp2_with fail;go_returns;exact⟨rfl,S7.out.below⟩
   ·have hbb:(be != (0:Int))=true:=by simpa using hbe
    have hz:bq=Qy.zero:=HBE.out hbe;subst hz;obtain⟨a2,a8,a9,a10,a11,a12,hza⟩:=Y8 HQ6.out;rw[hza]at S6;unfold zArr at S6;have CQ:=Lib.hid (fun W=>N7 a2 a8 a9 a10 a11 a12 (none,0) (none,0) (none,0) (none,0) (none,0) (none,0) W);unfold zArr at CQ;clear HQ6 hza;have F6:=S6.out.facts;simp only[St.Facts,cellFacts,apartFacts,and_true]at F6;go_wp2_with fail;refine Calls.mono (CQ.out _) ?_;rintro e w7 ⟨rfl,hb7⟩;have S7:=Lib.hid (S6.out.kept hb7);clear hb7 S6 F6 CQ;go_wp2_with fail;go_returns;exact⟨rfl,S7.out.below⟩
theorem U9 {B:Nat} (db:List Tbl) (x:Sel) (dv xv:Value) (w:World) (he:Env B w) (hd:RSl tblE (fun _=>True) w dv db) (hs:db.length<=4611686018427387904) (hx:RSelQ (fun _=>True) w x xv) (hwf:x.Wf) (hll:x.lists<=4611686018427387904):
 Calls prog 4 #[dv,xv] w (fun e w'=>e=.returned (.bool true)/\Below w.heap.size w w'):=Xy Jt Ln db x dv xv w he hd hs hx hwf hll
end Go.Proofs.YtjmmbebkbkgefaaGreatDoor
namespace Go.Proofs.YtjmmbebkbkgefaaGreatDoor
open Go.ChangeShapes Go.WideShapes Go.ChangeAt Go.RowKit Go.Joins Go.Proofs.Tryz
namespace boundHasSchema
noncomputable def start (os:Os):World:=startOf os allLaid
theorem laid_same:Rows.sqlBoundHasSchemaRow.laid=allLaid:=by kernel_rfl
theorem laid_met (os:Os):laidMet prog Rows.sqlBoundHasSchemaRow.laid ((start os).forCall (fun _ _=>0) ⟨#[],#[(.slice none 0 0),(.agg #[.bool false,.slice none 0 0,.slice none 0 0,.slice none 0 0,.int .i64 0,.string ⟨#[]⟩,.string ⟨#[]⟩,.int .i64 0,.int .i64 0,.string ⟨#[]⟩,.slice none 0 0,.slice none 0 0,.slice none 0 0,.int .i64 0])],[]⟩).memory:=by
 rw[laid_same];exact Tl os _
theorem reads (os:Os) {H:Type} (enc:TypeId×Value->H):∃x,DataW.whole enc prog ((start os).forCall (fun _ _=>0) ⟨#[],#[(.slice none 0 0),(.agg #[.bool false,.slice none 0 0,.slice none 0 0,.slice none 0 0,.int .i64 0,.string ⟨#[]⟩,.string ⟨#[]⟩,.int .i64 0,.int .i64 0,.string ⟨#[]⟩,.slice none 0 0,.slice none 0 0,.slice none 0 0,.int .i64 0])],[]⟩).memory Tryz.f4.params.toList Rows.sqlBoundHasSchemaSpec.vars false #[(.slice none 0 0),(.agg #[.bool false,.slice none 0 0,.slice none 0 0,.slice none 0 0,.int .i64 0,.string ⟨#[]⟩,.string ⟨#[]⟩,.int .i64 0,.int .i64 0,.string ⟨#[]⟩,.slice none 0 0,.slice none 0 0,.slice none 0 0,.int .i64 0])].toList 8=some x/\True:=
 ⟨([.nil,.agg [.lit (.bool false),.nil,.nil,.nil,.agg [.lit (.int .i64 0),.lit (.string []),.lit (.string []),.agg [.lit (.int .i64 0),.lit (.int .i64 0),.lit (.string [])],.nil],.nil,.nil,.lit (.int .i64 0)]],[],[]),by kernel_rfl,trivial⟩
theorem closed:joinedFacts prog 4 Tryz.f4 (OpenSpec.ofChange Rows.sqlBoundHasSchemaSpec).bare Rows.sqlBoundHasSchemaRow=true:=by
 unfold joinedFacts
 simp only[Bool.and_eq_true]
 and_intros
 all_goals(as_aux_lemma=>kernel_rfl)
theorem plain (f:FuncId) (fn:Func) (hf:Tryz.pinned.checked.prog.funcNamed Rows.sqlBoundHasSchemaRow.func=some f) (hfn:Tryz.pinned.checked.prog.funcs[f]?=some fn):
 true=Tryz.pinned.checked.prog.looks []/\∀(j:Nat) t,fn.params[j]?=some t->Tryz.pinned.checked.prog.wantsStandIn t=false:=by
 obtain rfl:f=4:=Option.some.inj ((show prog.funcNamed Rows.sqlBoundHasSchemaRow.func=some 4 by kernel_rfl).symm.trans hf) |>.symm
 obtain rfl:fn=Tryz.f4:=(Option.some.inj (func4.symm.trans hfn)).symm
 refine⟨by kernel_rfl,fun j t ht=>?_⟩
 rw[Tryz.params4]at ht
 exact J9 t (by have:=Array.mem_of_getElem? ht;simp at this;rcases this with rfl|rfl<;>simp)
end boundHasSchema
namespace boundHasSchema
theorem contract (H:Type) (enc:TypeId×Value->H) (W:World) (base:Nat) (args:Array Value) (ds gs:List (DataW H)) (before:List MemPlace)
 (hval:∀(j:Nat) t v,Tryz.f4.params[j]?=some t->args[j]?=some v->Value.okWide prog W .any base t v)
 (hW:DataW.Whole enc prog Tryz.f4.params.toList Rows.sqlBoundHasSchemaSpec.vars false W args.toList ds gs before)
 (hZ:(DataW.weightsEach prog (Tryz.f4.params.toList++(OpenSpec.ofChange Rows.sqlBoundHasSchemaSpec).bare.plain.varTypes prog) (ds++gs)).all (·≤reachBytes)=true)
 (hL:laidMetH prog Rows.sqlBoundHasSchemaRow.laid W) (hS:W.ShapedOpen prog):
 Calls prog 4 args W fun e W'=>∃v,e=.returned v/\Rows.sqlBoundHasSchemaSpec.post enc prog Tryz.f4 false true false false W args v W':=by
 have hE:Env W.heap.size W:=Ym hL hS (by kernel_rfl) (by kernel_rfl) (by kernel_rfl) (by kernel_rfl) (by kernel_rfl)
 have hW':=hW
 obtain⟨p,q,hA,hV,rfl,_,_⟩:=hW
 rw[Tryz.params4]at hA hval
 obtain⟨v0,vs0,d0,ds0,p0,q0,hargs,rfl,rfl,h0,r0⟩:=trodAll_cons hA
 obtain⟨v1,vs1,d1,ds1,p1,q1,rfl,rfl,rfl,h1,r1⟩:=trodAll_cons r0
 obtain⟨rfl,rfl,rfl⟩:=trodAll_nil r1
 obtain rfl:args=#[v0,v1]:=by cases args;simp_all
 obtain⟨rfl,rfl⟩:=trodVars_none hV
 obtain⟨xa,hina,hla⟩:=Ib (hval 0 22 v0 rfl rfl) h0 (fun k hk=>by simpa using List.all_eq_true.1 hZ k (DataW.weights_mem_each (j:=0) rfl rfl k hk))
 obtain⟨xb,hinb,hwfb,hllb⟩:=Ic (hval 1 44 v1 rfl rfl) h1 (fun k hk=>by simpa using List.all_eq_true.1 hZ k (DataW.weights_mem_each (j:=1) rfl rfl k hk))
 refine(U9 (B:=W.heap.size) xa xb v0 v1 W hE hina hla hinb hwfb hllb).mono fun e W' ⟨he,hb⟩=>⟨_,he,?_⟩
 exact Ov Sw (fun t ht=>Ls t (by rw[Tryz.params4]at ht;simp at ht;rcases ht with rfl|rfl<;>simp)) rfl (by kernel_rfl) underlying4 hW' hb rfl
theorem lifted (os:Os) (started:os.Started) (H:Type) (enc:TypeId×Value->H) (F:Stop.Interp):
 ReturnsInHanded {} Tryz.checked os 4 .any ((OpenSpec.ofChange Rows.sqlBoundHasSchemaSpec).preRow enc prog Tryz.f4 Rows.sqlBoundHasSchemaRow.domain false Rows.sqlBoundHasSchemaRow.laid) (((OpenSpec.ofChange Rows.sqlBoundHasSchemaSpec).at F).post enc prog Tryz.f4 false true false false):=by
 obtain⟨x,hx,_⟩:=reads os enc
 refine returnsInHanded_of_row (C:=Tryz.checked) (s:=OpenSpec.ofChange Rows.sqlBoundHasSchemaSpec) own started (by kernel_rfl) func4
  (Dn (enc:=enc) (C:=Tryz.checked) false (start os) #[(.slice none 0 0),(.agg #[.bool false,.slice none 0 0,.slice none 0 0,.slice none 0 0,.int .i64 0,.string ⟨#[]⟩,.string ⟨#[]⟩,.int .i64 0,.int .i64 0,.string ⟨#[]⟩,.slice none 0 0,.slice none 0 0,.slice none 0 0,.int .i64 0])] (Jl _ _) (Tk os _) (Kv os _) (by kernel_rfl)
   (OpenSpec.preRow_of_cond 8 hx (by kernel_rfl) (fun k hk=>by cases hk) (by kernel_rfl) (laid_met os))) ?_
 intro W base args ds gs before hval hW _ _ hZ hL hS _
 exact contract H enc W base args ds gs before hval hW hZ hL hS
theorem said:Rows.SqlBoundHasSchemaSaid:=
 OpenClaim.holds_of_cond 4 Tryz.f4 rfl rfl rfl rfl rfl rfl rfl ⟨rfl,rfl,rfl,rfl,rfl⟩ rfl rfl rfl rfl rfl (by kernel_rfl) func4 closed
  (of_decide_eq_true (by kernel_rfl)) (by unfold Func.isWrapper;first|(rw[if_pos (by decide+kernel)];kernel_rfl)|(rw[if_neg (by decide+kernel)];exact⟨rfl,rfl⟩))
  (fun os started H enc _ F=>by rw[OpenClaim.pre_eq_preRow];exact lifted os started H enc F)
theorem card:Rows.SqlBoundHasSchemaCardSaid:=
 Claim7.holds_tied_plain_at .later [] _ _ _ _ said (fun _ h=>by cases h) (by kernel_rfl) (fun _ h=>by cases h) sqlBoundHasSchema_row_tie rfl ⟨rfl,rfl⟩ (by kernel_rfl) rfl plain (by kernel_rfl)
#print axioms card
end boundHasSchema
end Go.Proofs.YtjmmbebkbkgefaaGreatDoor
