/- Part 23; the last part says what is proved. No condition. -/
import Derived.Test.YtjmmbebkbkgefaaGreatDoorB22
set_option linter.unusedVariables false
set_option linter.unusedSimpArgs false
set_option maxHeartbeats 16000000
set_option maxRecDepth 100000
namespace Go.Proofs.YtjmmbebkbkgefaaGreatDoor
open Go.RowKit Go.Sort Go.Proofs.Tryz
abbrev zC:=@cell_regrown
theorem Ww {w W0:World} {b o i:Nat} {tb:Tbl} {ca ja ka:Option Addr} {cc jc kc n tc:Nat} {sc:List Tbl} (ht:RSl tblE (·<w.heap.size) w (.slice (some ⟨b,o,none⟩) n tc) sc) (hb:Below w.heap.size w W0) (hx:sc[i]?=some tb) (hn:n=sc.length)
 (hat:∀j u,[Value.string ⟨tb.name.toArray⟩,.slice ca tb.cols.length cc,.slice ja tb.indexes.length jc,.slice ka tb.checks.length kc][j]?=some u->W0.cell? ⟨b,o+i * 4+j,none⟩=some u) (hc:RSl colE (·<w.heap.size) W0 (.slice ca tb.cols.length cc) tb.cols):
 Hid (∀W,Below w.heap.size w W->W.cell? ⟨b,o+i * 4,none⟩=some (.string ⟨tb.name.toArray⟩)/\W.cell? ⟨b,o+i * 4+1,none⟩=some (.slice ca tb.cols.length cc)/\RSl colE (·<w.heap.size) W (.slice ca tb.cols.length cc) tb.cols):=fun W hW=>by
 have hbl:b<w.heap.size:=by
  obtain⟨_,⟨a3,_,e,_,h⟩,_⟩:=ht;have:=(List.getElem?_eq_some_iff.1 hx).1;obtain⟨b3,o3,e3,h3,_⟩:=h (by omega);simp only[Value.slice.injEq]at e;rw[<- e.1]at e3;simp only[Option.some.injEq,Addr.mk.injEq]at e3;rw[e3.1];exact h3
 have key:∀k u,W0.cell? ⟨b,k,none⟩=some u->W.cell? ⟨b,k,none⟩=some u:=fun k u h=>by
  have h1:W.heap[b]?=W0.heap[b]?:=(hW.block b hbl).trans (hb.block b hbl).symm;simp only[World.cell?]at h ⊢;rw[h1];exact h
 exact⟨key _ _ (hat 0 _ rfl),key _ _ (hat 1 _ rfl),Ad (by decide) (fun c hl hq=>⟨hq,(hW.block c hq).trans (hb.block c hq).symm⟩) hc⟩
theorem Hy:∀{l:List Qy},qyNiceL l->∀a∈l,QyNice a
 | [],_,a,h=>by cases h
 | e::l,hb,a,h=>by
  rcases List.mem_cons.1 h with rfl|h
  ·exact hb.1
  ·exact Hy hb.2 a h
def ScPost (w:World) (r:Except Int (List Tbl)) (e:Ending) (w':World):Prop:=match r with
 | .ok sc=>∃(ta:Option Addr) (tc:Nat),e=.returned (.tuple #[.slice ta sc.length tc,.int .i64 0])/\RSl tblE (fun _=>True) w' (.slice ta sc.length tc) sc/\Below w.heap.size w w'
 | .error k=>e=.returned (.tuple #[.slice none 0 0,.int .i64 k])/\Below w.heap.size w w'
theorem Qe (db:List Tbl) (hdb:db.length<=1000000) (from_:List Bytes) (hfl:from_.length<=1000) (r:Except Int (List Tbl)) (hsc:scopeY db [] from_=r) (da:Option Addr) (dc:Nat) (fa:Option Addr) (fc:Nat) (w:World) (hd:RSl tblE (·<w.heap.size) w (.slice da db.length dc) db) (hf:RSl strE (·<w.heap.size) w (.slice fa from_.length fc) from_):
 Calls prog 15 #[.slice da db.length dc,.slice fa from_.length fc] w (ScPost w r):=by
 have HD:=Lib.hid hd
 have HF:=Lib.hid hf
 have HS0:Hid (r=scJ [] (scopeY db (from_.take 0) (from_.drop 0))):=by
  show _=scJ [] (scopeY db [] from_);rw[hsc];cases r<;>rfl
 have F0:Hid (BF M0 U1 w w [] [⟨36,4,.slice none 0 0,0,[]⟩] (Far.top.and (farL tblE [] []))):=(BF.snoc (R:=[]) ⟨StM.start M0 w,OwnRows.nil _ _,fun _ h=>absurd h (by simp),trivial⟩ 36 4:BF M0 U1 w w [] _ Far.top).imp fun _ _ _=>⟨trivial,rfl⟩
 clear hd hf hsc
 go_enter func15,ntmps15
 go_wp2_with fail
 go_loopw [6,7,8,9,10] (fun ov iv _ _ _ wr=>∃(j:Nat) (acc:List Tbl) (ta:Option Addr) (tc:Nat) (xs:List Value),ov=.slice ta acc.length tc/\iv=.int .i64 j/\j<=from_.length/\Hid (acc.length=j)/\Hid (r=scJ acc (scopeY db (from_.take j) (from_.drop j)))/\Hid (BF M0 U1 w wr [] [⟨36,4,.slice ta acc.length tc,acc.length,xs⟩] (Far.top.and (farL tblE acc xs)))) (fun _ iv _ _ _ _=>from_.length - (intOf iv).toNat)
 case atStart=>exact⟨0,[],none,0,[],rfl,rfl,by omega,rfl,HS0.out,F0.out⟩
 case round=>
  clear F0 HS0;obtain⟨j,acc,ta,tc,xs,rfl,rfl,hj,HL,HS,F1⟩:=hrel;by_cases hlt:j<from_.length
  ·obtain⟨nm,hxj⟩:∃y,from_[j]?=some y:=⟨from_[j],by simp[hlt]⟩;obtain⟨fb0,fo,rfl,hfq,hfc⟩:=Mo HF.out (by omega);have HFC:Hid (∀W,Below w.heap.size w W->∀j s,from_[j]?=some s->W.cell? ⟨fb0,fo+j,none⟩=some (.string ⟨s.toArray⟩)):=fun W hW j s hj=>hW.cell_kept (hfc j s hj);have hdr:from_.drop j=nm::from_.drop (j+1):=by
    obtain⟨h1,rfl⟩:=List.getElem?_eq_some_iff.1 hxj;exact List.drop_eq_getElem_cons h1
   have htk:from_.take j++[nm]=from_.take (j+1):=by
    obtain⟨h1,rfl⟩:=List.getElem?_eq_some_iff.1 hxj;rw[List.take_succ_eq_append_getElem h1]
   have hji:(j:Int)<(from_.length:Int):=by omega
   have hs0:=HS.out;rw[hdr]at hs0;have HS1:=Lib.hid hs0;have HTK:=Lib.hid htk;have HXJ:=Lib.hid hxj;have hal:acc.length<=1000:=by have:=HL.out;omega
   clear hfc hdr HS hs0 htk hxj;go_wp2_with fail;go_loopw [6,8,9] (fun ov fv kv wx=>∃(k:Nat) (fb:Bool) (acc2:List Tbl) (ta2:Option Addr) (tc2:Nat) (xs2:List Value),ov=.slice ta2 acc2.length tc2/\fv=.bool fb/\kv=.int .i64 k/\k<=db.length/\Hid ((fb=false/\acc2=acc/\(db.find? fun t=>t.name==nm)=(db.drop k).find? fun t=>t.name==nm)\/(fb=true/\∃t,(db.find? fun t=>t.name==nm)=some t/\acc2=acc++[t]))/\Hid (BF M0 U1 w wx [] [⟨36,4,.slice ta2 acc2.length tc2,acc2.length,xs2⟩] (Far.top.and (farL tblE acc2 xs2)))) (fun _ _ kv _=>db.length - (intOf kv).toNat)
   case atStart=>exact⟨0,false,acc,ta,tc,xs,rfl,rfl,rfl,by omega,.inl ⟨rfl,rfl,rfl⟩,F1.out⟩
   case round=>
    clear F1;obtain⟨k,fb,acc2,ta2,tc2,xs2,rfl,rfl,rfl,hk,HI,F2⟩:=hrel
    cases fb with
    | true=>
     obtain⟨t,hfd,hac⟩:∃t,(db.find? fun t=>t.name==nm)=some t/\acc2=acc++[t]:=by
      rcases HI.out with⟨h,_⟩|⟨_,h⟩
      ·cases h
      ·exact h
     have HFD:=Lib.hid hfd;have HAC:=Lib.hid hac;clear HI hfd hac;rcases(show(k:Int)<(db.length:Int)\/¬(k:Int)<(db.length:Int) by omega)with hki|hki
     all_goals
      go_wp2_with fail
      go_loopw [10] (fun kv wy=>∃m:Nat,kv=.int .i64 m/\m<=j/\Hid (∀s∈from_.take m,s≠nm)/\Hid (BF M0 U1 w wy [] [⟨36,4,.slice ta2 acc2.length tc2,acc2.length,xs2⟩] (Far.top.and (farL tblE acc2 xs2)))) (fun kv _=>j - (intOf kv).toNat)
      case atStart=>exact⟨0,rfl,by omega,fun s h=>absurd h (by simp),F2.out⟩
      case round=>
       clear F2;obtain⟨m,rfl,hm,HN,F3⟩:=hrel;by_cases hml:m<j
       ·have hmi:(m:Int)<(j:Int):=by omega
        have hmf:(m:Int)<(from_.length:Int):=by omega
        obtain⟨s,hxm⟩:∃y,from_[m]?=some y:=⟨from_[m],by simp⟩;have y0:=zC (HFC.out _ F3.out.below j nm HXJ.out);have y1:=zC (HFC.out _ F3.out.below m s hxm);have htm:from_.take (m+1)=from_.take m++[s]:=by
         obtain⟨h1,rfl⟩:=List.getElem?_eq_some_iff.1 hxm;rw[List.take_succ_eq_append_getElem h1]
        have hsj:s∈from_.take j:=List.mem_of_getElem? (i:=m) (by rw[List.getElem?_take_of_lt hml];exact hxm);have HTM:=Lib.hid htm;have HSJ:=Lib.hid hsj;clear hxm htm hsj;go_upto_region 17 with fail;refine Ab 9 [(0,false),(1,false),(2,false),(3,false),(4,false),(5,false),(6,false),(7,false),(8,false)] (by kernel_rfl) (by kernel_rfl) ?_;repeat(refine An rfl (fun K hK=>?_);go_simp;first|(refine hK _ ?_;clear hK K)|(apply Exists.intro;refine⟨fun _=>?_,hK _ ?_⟩;(fail);clear hK K))
        refine A3 ?_;intro w9 hb9 _;have F9:=Lib.hid (F3.out.kept hb9);clear hb9 F3 y0 y1
        cases hsn:s==nm with
        | true=>
         rw[beq_iff_eq]at hsn;have hsb:(s==nm)=true:=by rw[beq_iff_eq];exact hsn
         have h1:=HS1.out;rw[Lq HFD.out (by rw[<- hsn];exact HSJ.out)]at h1;subst h1;go_wp2_with fail;go_returns;exact⟨rfl,F9.out.below⟩
        | false=>
         rw[beq_eq_false_iff_ne]at hsn;have HN2:Hid (∀u∈from_.take (m+1),u≠nm):=fun u hu=>by
          rw[HTM.out]at hu;rcases List.mem_append.1 hu with hu|hu
          ·exact HN.out u hu
          ·rw[List.mem_singleton]at hu;rw[hu];exact hsn
         have hsb:(s==nm)=false:=by rw[beq_eq_false_iff_ne];exact hsn
         clear HN hsn;go_wp2_with fail;go_roundw
         case rel=>exact⟨m+1,by go_num,by omega,HN2.out,F9.out⟩
         case measure=>simp[intOf];omega
       ·obtain rfl:m=j:=by omega
        have hnin:¬nm∈from_.take m:=fun h=>HN.out nm h rfl;have h1:=HS1.out;rw[N0 HFD.out hnin,HTK.out,<- HAC.out]at h1;have HS:=Lib.hid h1;clear hnin h1 HN HS1;go_wp2_with fail;go_roundw
        case rel=>exact⟨m+1,acc2,ta2,tc2,xs2,rfl,by go_num,by omega,by show _=_;rw[HAC.out,List.length_append,HL.out];rfl,HS.out,F3.out⟩
        case measure=>simp[intOf];omega
    | false=>
     obtain⟨rfl,hfd⟩:acc2=acc/\(db.find? fun t=>t.name==nm)=(db.drop k).find? fun t=>t.name==nm:=by
      rcases HI.out with⟨_,h⟩|⟨h,_⟩
      ·exact h
      ·cases h
     clear HI;by_cases hkl:k<db.length
     ·have hki:(k:Int)<(db.length:Int):=by omega
      obtain⟨t,hxk⟩:∃y,db[k]?=some y:=⟨db[k],by simp[hkl]⟩;have hdr:db.drop k=t::db.drop (k+1):=by
       obtain⟨h1,rfl⟩:=List.getElem?_eq_some_iff.1 hxk;exact List.drop_eq_getElem_cons h1
      rw[hdr]at hfd;obtain⟨b,o,cap,cs,hbo,hin,hat⟩:=(HD.out.kept (by decide) F2.out.below).at hxk;injection hbo with e1 _ e2;subst e1;subst e2;have hinT:=hin;obtain⟨ca,cc,ja,jc,ka2,kc2,rfl,_⟩:=hin;have t0:=hat 0 _ rfl;have t1:=hat 1 _ rfl;have t2:=hat 2 _ rfl;have t3:=hat 3 _ rfl;simp only[show tblE.k=4 from rfl,Nat.add_zero]at t0 t1 t2 t3;have z0:=zC t0;have y0:=zC (HFC.out _ F2.out.below j nm HXJ.out);have F2b:=Lib.hid F2.out.below;have HIN:=Lib.hid hinT;clear hdr hat hxk hinT;go_upto_region 9 with fail;refine Ab 10 [(0,false),(1,false),(2,false),(3,false),(4,false),(5,false),(6,false),(7,false),(8,false),(9,false)] (by kernel_rfl) (by kernel_rfl) ?_;repeat(refine An rfl (fun K hK=>?_);go_simp;first|(refine hK _ ?_;clear hK K)|(apply Exists.intro;refine⟨fun _=>?_,hK _ ?_⟩;(fail);clear hK K))
      refine A3 ?_;intro w9 hb9 _;have F9:=Lib.hid (F2.out.kept hb9);replace t0:=hb9.cell_kept t0;replace t1:=hb9.cell_kept t1;replace t2:=hb9.cell_kept t2;replace t3:=hb9.cell_kept t3;clear hb9 F2 z0 y0;have t0l:=block_lt_of_cell t0
      cases hnm:t.name==nm with
      | true=>
       rw[List.find?_cons_of_pos (p:=fun t:Tbl=>t.name==nm) hnm]at hfd;have HFD:=Lib.hid hfd;clear hfd;go_wp2_with(at_builtin;go_must (refine BF.append_new rfl (.tmp 37) (.tmp 42) 22 rfl 36 (.agg #[.string ⟨#[]⟩,.slice none 0 0,.slice none 0 0,.slice none 0 0]) 4 88 underlying22 Sz rfl (by decide) 0 (.slice ta2 acc2.length tc2) acc2.length xs2 F9.out rfl rfl #[.string ⟨t.name.toArray⟩,.slice ca t.cols.length cc,.slice ja t.indexes.length jc,.slice ka2 t.checks.length kc2] _ rfl rfl rfl (by simp[Value.oneCell']) (by omega) (by unfold maxLen;omega) ?_;intro ga gc w10 F10 T10));go_roundw
       case rel=>
        refine⟨k+1,true,acc2++[t],ga,gc,xs2++[.string ⟨t.name.toArray⟩,.slice ca t.cols.length cc,.slice ja t.indexes.length jc,.slice ka2 t.checks.length kc2],by rw[List.length_append];rfl,rfl,by go_num,by omega,.inr ⟨rfl,t,HFD.out,rfl⟩,?_⟩;show BF _ _ _ _ _ _ _;rw[List.length_append];exact BF.addL (F10.out.inp (farE tblE t _) (tblE.move (fun b hl hq=>⟨hq,(F10.out.below.block b hq).trans (F2b.out.block b hq).symm⟩) HIN.out))
       case measure=>simp[intOf];omega
      | false=>
       rw[List.find?_cons_of_neg (p:=fun t:Tbl=>t.name==nm) (by simp only[hnm];decide)]at hfd;have HFD:=Lib.hid hfd;clear hfd;go_wp2_with fail;go_roundw
       case rel=>exact⟨k+1,false,acc2,ta2,tc2,xs2,rfl,rfl,by go_num,by omega,.inl ⟨rfl,rfl,HFD.out⟩,F9.out⟩
       case measure=>simp[intOf];omega
     ·obtain rfl:k=db.length:=by omega
      rw[List.drop_length]at hfd;have h1:=HS1.out;rw[Nz hfd]at h1;subst h1;go_wp2_with fail;go_returns;exact⟨rfl,F2.out.below⟩
  ·obtain rfl:j=from_.length:=by omega
   have hs0:=HS.out;rw[List.drop_length,List.take_length]at hs0;obtain rfl:r=.ok acc:=by
    rw[hs0];unfold scopeY;simp[scJ]
   have F2:=BF.fin (E:=tblE) (by decide) (R:=[]) F1.out (fun _ _=>trivial);clear HS hs0;go_wp2_with fail;go_returns;exact⟨ta,tc,rfl,Bt F2.far.2 (by decide) (fun _ _=>trivial),F2.below⟩
def lastT (n:Bytes):List (Bytes×Bytes)->Bytes->Bytes
 | [],t=>t
 | p::l,t=>lastT n l (if p.2==n then p.1 else t)
mutual
def Ex.qual (sc:List (Bytes×Bytes)):Ex->Ex
 | .mk op t n v args=>.mk op (if op=1/\t=[]then lastT n sc t else t) n v (qualL sc args)
def qualL (sc:List (Bytes×Bytes)):List Ex->List Ex
 | []=>[]
 | e::l=>e.qual sc::qualL sc l
end
theorem Ft (sc:List (Bytes×Bytes)):∀l:List Ex,qualL sc l=l.map (Ex.qual sc)
 | []=>rfl
 | e::l=>by unfold qualL;rw[Ft sc l];rfl
theorem O4 (n:Bytes) (p:Bytes×Bytes):hitC [] n p=(p.2==n):=by unfold hitC;simp
theorem I6 {t n:Bytes} {p:Bytes×Bytes} (h:(p.2==n)=false):hitC t n p=false:=by unfold hitC;rw[h];rfl
theorem O8 {n:Bytes}:∀(l:List (Bytes×Bytes)) (i:Nat),fndC [] n i l=[]->(∀t,lastT n l t=t)/\∀t,fndC t n i l=[]
 | [],i,_=>⟨fun t=>rfl,fun t=>rfl⟩
 | p::l,i,h=>by
  by_cases hp:(p.2==n)=true
  ·rw[Hb _ _ _ _ _ (by rw[O4];exact hp)]at h
   cases h
  ·have hp:(p.2==n)=false:=by simpa using hp
   rw[Db _ _ _ _ _ (I6 hp)]at h;obtain⟨h1,h2⟩:=O8 l (i+1) h;refine⟨fun t=>?_,fun t=>?_⟩
   ·unfold lastT;rw[hp];exact h1 t
   ·rw[Db _ _ _ _ _ (I6 hp)];exact h2 t
theorem Tb {n:Bytes} {k:Int}:∀(l:List (Bytes×Bytes)) (i:Nat) (t0:Bytes),fndC [] n i l=[k]->fndC (lastT n l t0) n i l=[k]
 | [],i,t0,h=>by unfold fndC at h;cases h
 | p::l,i,t0,h=>by
  by_cases hp:(p.2==n)=true
  ·rw[Hb _ _ _ _ _ (by rw[O4];exact hp)]at h;injection h with h1 h2;obtain⟨h3,h4⟩:=O8 l (i+1) h2;have e:lastT n (p::l) t0=p.1:=by
    unfold lastT;rw[if_pos hp];exact h3 _
   rw[e,Hb _ _ _ _ _ (by unfold hitC;rw[hp];simp),h4,h1]
  ·have hp:(p.2==n)=false:=by simpa using hp
   rw[Db _ _ _ _ _ (I6 hp)]at h;have e:lastT n (p::l) t0=lastT n l t0:=by
    conv=>lhs;unfold lastT
    rw[hp];rfl
   rw[e,Db _ _ _ _ _ (I6 hp)];exact Tb l (i+1) t0 h
theorem Xc (sc:List (Bytes×Bytes)):∀e:Ex,∀x,Ex.res sc e=.ok x->Ex.res sc (e.qual sc)=.ok x:=by
 refine Ex.ind fun op t n v args ih=>?_;intro x h;have key:∀l:List Ex,(∀a∈l,∀x,Ex.res sc a=.ok x->Ex.res sc (a.qual sc)=.ok x)->∀r,resL sc l=.ok r->resL sc (qualL sc l)=.ok r:=by
  intro l
  induction l with
  | nil=>intro _ r h;exact h
  | cons a l ihl=>
   intro hl r h;unfold resL at h
   cases h1:Ex.res sc a with
   | error x=>rw[h1]at h;cases h
   | ok x=>
    rw[h1]at h
    cases h2:resL sc l with
    | error y=>rw[h2]at h;cases h
    | ok y=>
     rw[h2]at h;injection h with h;subst h;unfold qualL resL;rw[hl a (by simp) _ h1,ihl (fun b hb=>hl b (by simp[hb])) _ h2]
 unfold Ex.qual;by_cases ho:op=1
 ·subst ho;rw[G8]at h ⊢;by_cases ht:t=[]
  ·subst ht;rw[if_pos ⟨rfl,rfl⟩];have key2:∀l:List Int,pickC l=.ok x->∃i,l=[i]:=by
    intro l h;rcases l with _|⟨i,_|⟨j,l⟩⟩
    ·cases h
    ·exact⟨i,rfl⟩
    ·cases h
   obtain⟨i,hi⟩:=key2 _ h;rw[Tb _ _ _ hi,<- hi];exact h
  ·rw[if_neg (fun hn=>ht hn.2)];exact h
 ·rw[if_neg (fun hn=>ho hn.1)];rw[Jw _ _ _ _ _ _ ho]at h ⊢
  cases h2:resL sc args with
  | error y=>rw[h2]at h;cases h
  | ok y=>rw[key args ih _ h2,<- h2];exact h
theorem Et {sc:List Tbl} {k:Nat} {e:Int} {x:Ex} (h:(bresY sc k e x).2=0):bresY sc k e (x.qual (flatC (sc.take k)))=bresY sc k e x:=by
 obtain⟨h0,h1⟩:=Eb h;obtain⟨y,hy⟩:∃y,Ex.res (flatC (sc.take k)) x=.ok y:=⟨_,h1⟩;have h2:=Xc _ _ _ hy;unfold bresY;rw[if_pos h0,if_pos h0,h2,hy]
def qualOn (sc:List Tbl):Nat->List Ex->List Ex
 | _,[]=>[]
 | i,e::l=>e.qual (flatC (sc.take (i+2)))::qualOn sc (i+1) l
theorem Jz (sc:List Tbl):∀(l:List Ex) (i:Nat),(qualOn sc i l).length=l.length
 | [],i=>rfl
 | e::l,i=>by unfold qualOn;simp[Jz sc l]
theorem Ih {sc:List Tbl}:∀(on:List Ex) (fr:List Bytes) (i:Nat) (q:Qy) (e:Int),(joinsY sc i on fr q e).2=0->joinsY sc i (qualOn sc i on) fr q e=joinsY sc i on fr q e
 | [],fr,i,q,e,_=>rfl
 | x::on,[],i,q,e,_=>by unfold qualOn joinsY;rfl
 | x::on,t::fr,i,q,e,h=>by
  unfold joinsY at h;have h1:=joinsY_ok _ _ _ _ _ h;unfold qualOn
  conv=>lhs;unfold joinsY
  conv=>rhs;unfold joinsY
  rw[Et h1];exact Ih on fr _ _ _ h
theorem Tn (sc:List (Bytes×Bytes)) (e:Ex):(e.qual sc).isZero=e.isZero:=by
 obtain⟨op,t,n,v,args⟩:=e;unfold Ex.qual Ex.isZero;rw[Ft];simp only[List.length_map];by_cases ho:op=0
 ·subst ho;rw[if_neg (fun h=>by have:=h.1;omega)]
 ·simp[ho]
theorem Jg (sc:List Tbl):sc.take sc.length=sc:=List.take_length
theorem Nn {sc:List Tbl} {x:Ex} {q:Qy} {e:Int} (h:(whereY sc x q e).2=0):whereY sc (x.qual (flatC sc)) q e=whereY sc x q e:=by
 unfold whereY at h ⊢;rw[Tn];by_cases hz:x.isZero=true
 ·rw[if_pos hz,if_pos hz]
 ·rw[if_neg hz]at h;rw[if_neg hz,if_neg hz];have:=Et h;rw[Jg]at this;rw[this]
theorem Io {sc:List Tbl}:∀(l:List Ex) (g:List Int) (e:Int),(groupY sc l g e).2=0->groupY sc (l.map (Ex.qual (flatC sc))) g e=groupY sc l g e
 | [],g,e,_=>rfl
 | x::l,g,e,h=>by
  unfold groupY at h;have h1:=Fv _ _ _ h;have h2:=Et h1;rw[Jg]at h2;rw[List.map_cons]
  conv=>lhs;unfold groupY
  conv=>rhs;unfold groupY
  rw[h2];exact Io l _ _ h
def Pk.qual (sc:List (Bytes×Bytes)) (p:Pk):Pk:=⟨p.fn,p.arg.qual sc⟩
theorem Il {sc:List Tbl}:∀(l:List Pk) (acc:List Xp) (e:Int),(itemsY sc l acc e).2=0->itemsY sc (l.map (Pk.qual (flatC sc))) acc e=itemsY sc l acc e
 | [],acc,e,_=>rfl
 | it::l,acc,e,h=>by
  unfold itemsY at h;have h1:=Ea _ _ _ h;have h2:itemY sc e (it.qual (flatC sc))=itemY sc e it:=by
   unfold itemY at h1 ⊢;by_cases hf:it.fn=1
   ·rw[if_pos hf,if_pos (show(it.qual (flatC sc)).fn=1 from hf)]
   ·rw[if_neg hf]at h1;rw[if_neg hf,if_neg (show ¬(it.qual (flatC sc)).fn=1 from hf)];have:=Et h1;rw[Jg]at this;exact this
  rw[List.map_cons]
  conv=>lhs;unfold itemsY
  conv=>rhs;unfold itemsY
  rw[h2];exact Il l _ _ h
theorem Gw (sc:List (Bytes×Bytes)) (g:List Int):∀(l:List Pk) (xs:List Xp) (ag:List Ag) (out:List Xp) (e:Int),aggsY g (l.map (Pk.qual sc)) xs ag out e=aggsY g l xs ag out e
 | [],xs,ag,out,e=>rfl
 | it::l,[],ag,out,e=>by rw[List.map_cons];unfold aggsY;rfl
 | it::l,x::xs,ag,out,e=>by
  rw[List.map_cons]
  conv=>lhs;unfold aggsY
  conv=>rhs;unfold aggsY
  by_cases hf:it.fn≠0
  ·rw[if_pos hf,if_pos (show(it.qual sc).fn≠0 from hf)];exact Gw sc g l _ _ _ _
  ·rw[if_neg hf,if_neg (show ¬(it.qual sc).fn≠0 from hf)];exact Gw sc g l _ _ _ _
def Sel.qual (sc:List Tbl) (x:Sel):Sel:={x with on:=qualOn sc 0 x.on,group:=x.group.map (Ex.qual (flatC sc)),items:=x.items.map (Pk.qual (flatC sc)),where_:=x.where_.qual (flatC sc)}
theorem M7 (sc:List Tbl) (x:Sel):groupedY (x.qual sc)=groupedY x:=by
 unfold groupedY Sel.qual;simp only[List.length_map,List.any_map];rfl
theorem Iq {sc:List Tbl} {x:Sel} (h:(boundY sc x).2=0):boundY sc (x.qual sc)=boundY sc x:=by
 have it0:(itemsY sc x.items [] (groupY sc x.group [] (whereY sc x.where_ (joinsY sc 0 x.on (x.from_.drop 1) (Qy.scan (x.from_.headD [])) 0).1 (joinsY sc 0 x.on (x.from_.drop 1) (Qy.scan (x.from_.headD [])) 0).2).2).2).2=0:=by
  unfold boundY at h;simp only at h;by_cases hgr:groupedY x=true
  ·rw[if_pos hgr]at h;have e1:=Fk _ _ _ _ _ (D5 h);split at e1
   ·exact(firstE_bad e1).elim
   ·exact e1
  ·rw[if_neg hgr]at h;exact D5 h
 have g0:=Ea _ _ _ it0;have f0:=Fv _ _ _ g0;have j0:=Ld f0;have hfr:(x.qual sc).from_=x.from_:=rfl;have e1:joinsY sc 0 (x.qual sc).on (x.from_.drop 1) (Qy.scan (x.from_.headD [])) 0=_:=Ih _ _ _ _ _ j0;have e2:whereY sc (x.qual sc).where_ (joinsY sc 0 x.on (x.from_.drop 1) (Qy.scan (x.from_.headD [])) 0).1 (joinsY sc 0 x.on (x.from_.drop 1) (Qy.scan (x.from_.headD [])) 0).2=_:=Nn f0;have e3:=Io _ _ _ g0;have e4:=Il _ _ _ it0;unfold boundY;simp only;rw[M7,hfr,e1,e2];have e3':groupY sc (x.qual sc).group [] (whereY sc x.where_ (joinsY sc 0 x.on (x.from_.drop 1) (Qy.scan (x.from_.headD [])) 0).1 (joinsY sc 0 x.on (x.from_.drop 1) (Qy.scan (x.from_.headD [])) 0).2).2=_:=e3;rw[e3'];have e4':itemsY sc (x.qual sc).items [] (groupY sc x.group [] (whereY sc x.where_ (joinsY sc 0 x.on (x.from_.drop 1) (Qy.scan (x.from_.headD [])) 0).1 (joinsY sc 0 x.on (x.from_.drop 1) (Qy.scan (x.from_.headD [])) 0).2).2).2=_:=e4;rw[e4'];have e5:∀g xs ag out e,aggsY g (x.qual sc).items xs ag out e=aggsY g x.items xs ag out e:=fun g xs ag out e=>Gw _ g _ xs ag out e;simp only[e5];rfl
theorem Wk {sch:List Tbl->Qy->List Int×Int} {db sc:List Tbl} {x:Sel} (hs:scopeY db [] x.from_=.ok sc) (h:(bindY sch db x).2=0):bindY sch db (x.qual sc)=bindY sch db x:=by
 have hs2:scopeY db [] (x.qual sc).from_=.ok sc:=hs;unfold bindY at h ⊢;rw[hs]at h;rw[hs,hs2];simp only at h ⊢;have h0:(boundY sc x).2=0:=by
  by_cases hb:(boundY sc x).2=0
  ·exact hb
  ·rw[if_neg hb]at h;rw[if_neg hb]at h;exact absurd h hb
 rw[Iq h0]
theorem Es (sc:List (Bytes×Bytes)):∀e:Ex,e.brief->(e.qual sc).brief:=by
 refine Ex.ind fun op t n v args ih=>?_;intro h;unfold Ex.qual;have key:∀l:List Ex,(∀a∈l,a.brief->(a.qual sc).brief)->briefL l->briefL (qualL sc l):=by
  intro l
  induction l with
  | nil=>intro _ _;exact trivial
  | cons a l ihl=>intro h1 h2;exact⟨h1 a (by simp) h2.1,ihl (fun b hb=>h1 b (by simp[hb])) h2.2⟩
 exact⟨by rw[Ft];simpa using h.1,key args ih h.2⟩
def QualPost (w:World) (x:Ex) (e:Ending) (w':World):Prop:=∃ds,e=.returned (.agg ds.toArray)/\ExIn (w.heap.size≤·) w' x ds/\Below w.heap.size w w'
theorem Q5 (n:Bytes) (p:Bytes×Bytes) (l:List (Bytes×Bytes)) (t:Bytes):lastT n (p::l) t=lastT n l (if p.2==n then p.1 else t):=rfl
abbrev qlL (b:Nat) (E0 E1 E2:Array Value):List Blk:=[(b+1+1,E2,27),(b+1,E1,27),(b,E0,27)]
abbrev exA (op:Int) (t n:Bytes) (v:V) (a:Option Addr) (m c:Nat):Array Value:=#[.int .i64 op,.string ⟨t.toArray⟩,.string ⟨n.toArray⟩,.int .i64 v.k,.int .i64 v.n,.string v.s,.slice a m c]
theorem Kn (op:Int) (t n:Bytes) (v:V) (a:Option Addr) (m c:Nat):(prog.info? 27).map (·.size)=some (exA op t n v a m c).size:=by
 have:(prog.info? 27).map (·.size)=some 7:=by kernel_rfl
 rw[this];rfl
theorem Cl (sc:List Tbl) (hs:sc.length<=1000) (hcl:∀t∈sc,t.cols.length<=1000):∀e:Ex,e.brief->∀(ta:Option Addr) (tc:Nat) (cs:List Value) (w:World),RSl tblE (·<w.heap.size) w (.slice ta sc.length tc) sc->ExIn (·<w.heap.size) w e cs ->
 Calls prog 16 #[.slice ta sc.length tc,.agg cs.toArray] w (QualPost w (e.qual (flatC sc))):=by
 refine Ex.ind fun op t n v args ih=>?_
 intro hbr ta tc cs w ht hin
 obtain⟨a,rfl,hsl⟩:=A6 hin
 obtain⟨ad,ac,rfl⟩:=(Az hsl).slice
 have hal:args.length<=1000000:=hbr.1
 have HT:=Lib.hid ht
 have HA:=Lib.hid (Az hsl)
 have HCL:=Lib.hid hcl
 have IH:=Lib.hid (fun(x:Ex) (hm:x∈args)=>ih x hm (Gu hbr.2 x hm))
 have hq:Ex.qual (flatC sc) (.mk op t n v args)=.mk op (if op=1/\t=[]then lastT n (flatC sc) t else t) n v (args.map (Ex.qual (flatC sc))):=by unfold Ex.qual;rw[Ft]
 rw[hq]
 clear ht hin hsl hcl ih hbr hq
 obtain⟨tg,htg⟩:∃r,(if op=1/\t=[]then lastT n (flatC sc) t else t)=r:=⟨_,rfl⟩
 rw[htg]
 have HTG:=Lib.hid htg
 clear htg
 go_enter func16,ntmps16
 go_upto_region 3 with fail
 refine Af (fun W=>BF M0 (fun b=>w.heap.size<=b) w W (qlL w.heap.size (exA op t n v ad args.length ac) (exA 0 [] [] V.null none 0 0) (exA op t n v none 0 0)) [] Far.top) ?_ ?_
 ·have h:=((BF.alloc (cs:=exA op t n v ad args.length ac) (t:=27) ⟨StM.start M0 w,OwnRows.nil _ _,fun _ h=>absurd h (by simp),trivial⟩:BF M0 (fun b=>w.heap.size<=b) w _ _ [] Far.top).alloc (cs:=exA 0 [] [] V.null none 0 0) (t:=27)).alloc (cs:=exA op t n v none 0 0) (t:=27);simp only[World.size_alloc]at h;exact h
 intro w1 F1'
 have F1:=Lib.hid F1'
 clear F1'
 obtain⟨z0,_,zl⟩:=Aa (o:=0) (F1.out.blk 2 rfl) rfl
 obtain⟨z1,_,_⟩:=Aa (o:=1) (F1.out.blk 2 rfl) rfl
 go_cut [18]from 11 to 17 (fun bv wc=>bv=.bool (decide (op=1)&&(t==[]))/\Hid (BF M0 (fun b=>w.heap.size<=b) w wc (qlL w.heap.size (exA op t n v ad args.length ac) (exA 0 [] [] V.null none 0 0) (exA op t n v none 0 0)) [] Far.top))
 case first=>
  by_cases ho:op=1
  ·subst ho
   cases h2:t==[]with
   | true=>
    go_wp2_with fail;go_meet;exact⟨by rw[h2];rfl,F1.out⟩
   | false=>
    go_wp2_with fail;go_meet;exact⟨by rw[h2];rfl,F1.out⟩
  ·have hob:(op==(1:Int))=false:=by simpa using ho
   go_wp2_with fail;go_meet;exact⟨by rw[decide_eq_false ho];rfl,F1.out⟩
 clear F1 z0 zl z1
 obtain⟨rfl,F1⟩:=hcut
 obtain⟨bz,hbz⟩:∃r,(decide (op=1)&&(t==[]))=r:=⟨_,rfl⟩
 rw[hbz]
 go_upto_if 18 with fail
 go_cut []from 6 to 52 (fun wc=>Hid (BF M0 (fun b=>w.heap.size<=b) w wc (qlL w.heap.size (exA op t n v ad args.length ac) (exA 0 [] [] V.null none 0 0) (exA op tg n v none 0 0)) [] Far.top))
 case first=>
  cases bz with
  | false=>
   have h1:t=tg:=by
    rw[<- HTG.out,if_neg];rintro⟨h1,h2⟩;rw[decide_eq_true h1,h2]at hbz
    cases hbz
   subst h1;clear hbz HTG;go_wp2_with fail;go_meet;exact F1.out
  | true=>
   have h1:tg=lastT n (flatC (sc.drop 0)) t:=by
    rw[<- HTG.out,if_pos]
    ·rfl
    ·rw[Bool.and_eq_true,decide_eq_true_eq,beq_iff_eq]at hbz;exact hbz
   have HL0:=Lib.hid h1;clear hbz HTG h1;go_wp2_with fail;go_loopw [6,7] (fun iv _ wr=>∃(i:Nat) (t2:Bytes),iv=.int .i64 i/\i<=sc.length/\Hid (tg=lastT n (flatC (sc.drop i)) t2)/\Hid (BF M0 (fun b=>w.heap.size<=b) w wr (qlL w.heap.size (exA op t n v ad args.length ac) (exA 0 [] [] V.null none 0 0) (exA op t2 n v none 0 0)) [] Far.top)) (fun iv _ _=>sc.length - (intOf iv).toNat)
   case atStart=>exact⟨0,t,rfl,by omega,HL0.out,F1.out⟩
   case round=>
    clear F1 HL0;obtain⟨i,t2,rfl,hi,HL,F1⟩:=hrel;by_cases hlt:i<sc.length
    ·obtain⟨tb,hx⟩:∃x,sc[i]?=some x:=⟨sc[i],by simp[hlt]⟩;have hcb:=HCL.out tb (List.mem_of_getElem? hx);obtain⟨b,o,cap,tcs,hbo,hin,hat⟩:=(HT.out.kept (by decide) F1.out.below).at hx;injection hbo with e1 _ e2;subst e1;subst e2;obtain⟨ca,cc,ja,jc,ka,kc,rfl,hcols⟩:=hin;have HTC:Hid (∀W,Below w.heap.size w W->W.cell? ⟨b,o+i * 4,none⟩=some (.string ⟨tb.name.toArray⟩)/\W.cell? ⟨b,o+i * 4+1,none⟩=some (.slice ca tb.cols.length cc)/\RSl colE (·<w.heap.size) W (.slice ca tb.cols.length cc) tb.cols):=Ww HT.out F1.out.below hx rfl hat hcols;have hdr:sc.drop i=tb::sc.drop (i+1):=by
      obtain⟨h1,rfl⟩:=List.getElem?_eq_some_iff.1 hx;exact List.drop_eq_getElem_cons h1
     have hl0:=HL.out;rw[hdr,<- Ju]at hl0;have HL1:=Lib.hid hl0;have hii:(i:Int)<(sc.length:Int):=by omega
     clear hat hx hcols hdr HL hl0;go_wp2_with fail;go_loopw [7] (fun kv wx=>∃(k:Nat) (t3:Bytes),kv=.int .i64 k/\k<=tb.cols.length/\Hid (tg=lastT n (restC tb k (sc.drop (i+1))) t3)/\Hid (BF M0 (fun b=>w.heap.size<=b) w wx (qlL w.heap.size (exA op t n v ad args.length ac) (exA 0 [] [] V.null none 0 0) (exA op t3 n v none 0 0)) [] Far.top)) (fun kv _=>tb.cols.length - (intOf kv).toNat)
     case atStart=>exact⟨0,t2,rfl,by omega,HL1.out,F1.out⟩
     case round=>
      clear F1 HL1;obtain⟨k,t3,rfl,hk,HL,F1⟩:=hrel;obtain⟨c0,c1,hcl⟩:=HTC.out _ F1.out.below;have c1l:=block_lt_of_cell c1;by_cases hkl:k<tb.cols.length
      ·obtain⟨c,hxc⟩:∃x,tb.cols[k]?=some x:=⟨tb.cols[k],by simp[hkl]⟩;obtain⟨b2,o2,cap2,ccs,hbo2,hin2,hat2⟩:=hcl.at hxc;injection hbo2 with e1 _ e2;subst e1;subst e2;have hin3:ccs=c.cells:=hin2;subst hin3;have y0:=hat2 0 _ rfl;simp only[show colE.k=3 from rfl,Nat.add_zero]at y0;have hl0:=HL.out;rw[Jv _ _ _ _ hxc,Q5]at hl0;have hki:(k:Int)<(tb.cols.length:Int):=by omega
       clear hat2 hxc hin2 HL hcl;go_upto_region 10 with fail;obtain⟨z2,_,zl⟩:=Aa (o:=2) (F1.out.blk 2 rfl) rfl;have z2r:=zC z2;have c1r:=zC c1;have y0r:=zC y0;clear z2 zl;refine Ab 12 [(0,false),(1,false),(2,false),(3,false),(4,false),(5,false),(6,false),(7,false),(8,false),(9,false),(10,false),(11,false)] (by kernel_rfl) (by kernel_rfl) ?_;repeat(refine An rfl (fun K hK=>?_);go_simp;first|(refine hK _ ?_;clear hK K)|(apply Exists.intro;refine⟨fun _=>?_,hK _ ?_⟩;(fail);clear hK K))
       refine A3 ?_;intro w9 hb9 _;have F9:=Lib.hid (F1.out.kept hb9);replace c0:=hb9.cell_kept c0;clear hb9 F1 z2r c1r y0r y0 c1 c1l;have c0l:=block_lt_of_cell c0
       cases hcn:c.name==n with
       | true=>
        rw[hcn]at hl0;have HL:=Lib.hid hl0;clear hl0;obtain⟨u1,u1f,u1l⟩:=Aa (o:=1) (F9.out.blk 0 rfl) rfl;go_wp2_with fail;go_roundw
        case rel=>exact⟨k+1,tb.name,by go_num,by omega,HL.out,BF.set 0 (o:=1) (v:=.string ⟨tb.name.toArray⟩) F9.out rfl⟩
        case measure=>simp[intOf];omega
       | false=>
        rw[hcn]at hl0;have HL:=Lib.hid hl0;clear hl0;go_wp2_with fail;go_roundw
        case rel=>exact⟨k+1,t3,by go_num,by omega,HL.out,F9.out⟩
        case measure=>simp[intOf];omega
      ·obtain rfl:k=tb.cols.length:=by omega
       have hl0:=HL.out;rw[Lr]at hl0;have HL:=Lib.hid hl0;clear hl0 hcl;go_wp2_with fail;go_roundw
       case rel=>exact⟨i+1,t3,by go_num,by omega,HL.out,F1.out⟩
       case measure=>simp[intOf];omega
    ·obtain rfl:i=sc.length:=by omega
     have hl0:=HL.out;rw[List.drop_length]at hl0;obtain rfl:tg=t2:=hl0;clear HL;go_wp2_with fail;go_meet;exact F1.out
 clear F1 HTG hbz
 have F1:=hcut
 clear hcut
 obtain⟨z6,z6f,zl⟩:=Aa (o:=6) (F1.out.blk 2 rfl) rfl
 go_wp2_with fail
 clear z6 z6f zl
 go_loopw [8] (fun kv wr=>∃(k:Nat) (acc:List Ex) (aa:Option Addr) (acp:Nat) (xs:List Value),kv=.int .i64 k/\k<=args.length/\Hid (acc=(args.take k).map (Ex.qual (flatC sc)))/\Hid (BF M0 (fun b=>w.heap.size<=b) w wr (qlL w.heap.size (exA op t n v ad args.length ac) (exA 0 [] [] V.null none 0 0) (exA op tg n v aa acc.length acp)) [⟨27,7,.slice aa acc.length acp,acc.length,xs⟩] (Far.top.and (farL exE acc xs)))) (fun kv _=>args.length - (intOf kv).toNat)
 case atStart=>exact⟨0,[],none,0,[],rfl,by omega,rfl,(F1.out.snoc 27 7).imp fun _ _ _=>⟨trivial,rfl⟩⟩
 case round=>
  clear F1;obtain⟨k,acc,aa,acp,xs,rfl,hk,HAC,F1⟩:=hrel;obtain⟨z6,z6f,zl⟩:=Aa (o:=6) (F1.out.blk 2 rfl) rfl;by_cases hkl:k<args.length
  ·obtain⟨x,hx⟩:∃x,args[k]?=some x:=⟨args[k],by simp[hkl]⟩;have hki:(k:Int)<(args.length:Int):=by omega
   have hacl:acc.length=k:=by rw[HAC.out,List.length_map,List.length_take,Nat.min_eq_left hk]
   have HKL:Hid (acc.length=k):=hacl;have hac6:acc.length<=1000000:=by omega
   have htk:(args.take (k+1)).map (Ex.qual (flatC sc))=acc++[x.qual (flatC sc)]:=by
    obtain⟨h1,rfl⟩:=List.getElem?_eq_some_iff.1 hx;rw[List.take_succ_eq_append_getElem h1,List.map_append,HAC.out];rfl
   have HTK:=Lib.hid htk;have CI:Hid (∀(cs:List Value) (W:World),Below w.heap.size w W->ExIn (·<w.heap.size) W x cs->Calls prog 16 #[.slice ta sc.length tc,.agg cs.toArray] W (QualPost W (x.qual (flatC sc)))):=fun cs W hW hxc=>
    IH.out x (List.mem_of_getElem? hx) ta tc cs W (Ad (by decide) (fun b hb hq=>⟨Nat.lt_of_lt_of_le hq hW.size,hW.block b hq⟩) HT.out) (Ar (fun b hb hq=>⟨Nat.lt_of_lt_of_le hq hW.size,rfl⟩) _ _ hxc)
   obtain⟨b,o,cap,ecs,hbo,hin,hat⟩:=(HA.out.kept (by decide) F1.out.below).at hx;injection hbo with e1 _ e2;subst e1;subst e2;have hbl:b<w.heap.size:=by
    obtain⟨_,⟨a3,_,e,_,h⟩,_⟩:=HA.out;obtain⟨b3,o3,e3,h3,_⟩:=h (by omega);simp only[Value.slice.injEq]at e;rw[<- e.1]at e3;simp only[Option.some.injEq,Addr.mk.injEq]at e3;rw[e3.1];exact h3
   have HIN:=Lib.hid (show ExIn (·<w.heap.size) wr x ecs from hin);have B1:=Lib.hid F1.out.below;generalize x.qual (flatC sc)=y at CI HTK;obtain⟨op2,tb2,n2,v2,args2⟩:=x;obtain⟨ea,rfl,hes⟩:=A6 (show ExIn _ _ _ ecs from hin);obtain⟨ead,eac,rfl⟩:=(Az hes).slice;have d0:=hat 0 _ rfl;have d1:=hat 1 _ rfl;have d2:=hat 2 _ rfl;have d3:=hat 3 _ rfl;have d4:=hat 4 _ rfl;have d5:=hat 5 _ rfl;have d6:=hat 6 _ rfl;simp only[show exE.k=7 from rfl,Nat.add_zero]at d0 d1 d2 d3 d4 d5 d6;clear hat hin hes hx htk hacl;go_upto_region 15 with fail;clear z6 z6f zl;have z6:∀p:TurnW (fun k=>(Value.slice aa acc.length acp).ownBlock=some k) wr,p.w.cell? ⟨w.heap.size,6,none⟩=some _:=fun p=>F1.out.cellT (i:=0) rfl (j:=2) rfl 6 rfl p;have q6:∀p:TurnW (fun k=>(Value.slice aa acc.length acp).ownBlock=some k) wr,p.w.cell? ⟨w.heap.size+1+1,6,none⟩=some _:=fun p=>F1.out.cellT (i:=0) rfl (j:=0) rfl 6 rfl p;have p0:∀p:TurnW (fun k=>(Value.slice aa acc.length acp).ownBlock=some k) wr,p.w.cell? ⟨b,o+k * 7,none⟩=some _:=fun p=>F1.out.inT (i:=0) rfl hbl d0 p;have p1:∀p:TurnW (fun k=>(Value.slice aa acc.length acp).ownBlock=some k) wr,p.w.cell? ⟨b,o+k * 7+1,none⟩=some _:=fun p=>F1.out.inT (i:=0) rfl hbl d1 p;have p2:∀p:TurnW (fun k=>(Value.slice aa acc.length acp).ownBlock=some k) wr,p.w.cell? ⟨b,o+k * 7+2,none⟩=some _:=fun p=>F1.out.inT (i:=0) rfl hbl d2 p;have p3:∀p:TurnW (fun k=>(Value.slice aa acc.length acp).ownBlock=some k) wr,p.w.cell? ⟨b,o+k * 7+3,none⟩=some _:=fun p=>F1.out.inT (i:=0) rfl hbl d3 p
   have p4:∀p:TurnW (fun k=>(Value.slice aa acc.length acp).ownBlock=some k) wr,p.w.cell? ⟨b,o+k * 7+4,none⟩=some _:=fun p=>F1.out.inT (i:=0) rfl hbl d4 p;have p5:∀p:TurnW (fun k=>(Value.slice aa acc.length acp).ownBlock=some k) wr,p.w.cell? ⟨b,o+k * 7+5,none⟩=some _:=fun p=>F1.out.inT (i:=0) rfl hbl d5 p;have p6:∀p:TurnW (fun k=>(Value.slice aa acc.length acp).ownBlock=some k) wr,p.w.cell? ⟨b,o+k * 7+6,none⟩=some _:=fun p=>F1.out.inT (i:=0) rfl hbl d6 p;clear d0 d1 d2 d3 d4 d5 d6;refine Ay (fun k=>(Value.slice aa acc.length acp).ownBlock=some k) 12 [(0,false),(1,false),(2,false),(3,false),(4,false),(5,false),(6,false),(7,false),(8,true),(9,true),(10,true),(11,false)] (by kernel_rfl) (by kernel_rfl) ?_;repeat(refine A0 rfl (fun K hK=>?_);go_simp;first|(refine hK _ ?_;clear hK K)|(apply Exists.intro;refine⟨fun _=>?_,hK _ ?_⟩;(fail);clear hK K))
   clear z6 q6 p0 p1 p2 p3 p4 p5 p6;refine A7 rfl ?_;intro w4 hb4 ht4;have F4:=Lib.hid (F1.out.kept hb4);have T4:=Lib.hid ht4;clear hb4 ht4 F1;go_wp2_with fail;refine Calls.mono (CI.out _ _ F4.out.below (Ar (fun b hb hq=>⟨hq,(F4.out.below.block b hq).trans (B1.out.block b hq).symm⟩) _ _ HIN.out)) ?_;rintro e5 w5 ⟨ds,rfl,hds,hb5⟩;have hl4:=F4.out.lt;have F5:=Lib.hid ((F4.out.kept hb5).add (C:=w4.heap.size) (farE exE y ds) (fun _ h=>h) F4.out.size hl4.1 hl4.2 hds);have T5:=Lib.hid (T4.out.step hb5);clear hl4 hb5 F4 T4;obtain⟨op3,tb3,n3,v3,args3⟩:=y;obtain⟨ga0,rfl,hgs⟩:=A6 hds;obtain⟨gad,gac,rfl⟩:=(Az hgs).slice;clear hds hgs;dsimp only;go_wp2_with fail;refine⟨T5.out,A7 rfl ?_⟩;intro w6 hb6 ht6;have F6:=Lib.hid (F5.out.kept hb6);have T6:=Lib.hid ht6;clear hb6 ht6 F5 T5;go_wp2_with fail;refine⟨T6.out.step ((Below.refl _ _).alloc (Nat.le_refl _) _),A7 rfl ?_⟩;intro w7 hb7 ht7;have F7:=Lib.hid ((BF.alloc F6.out (cs:=exA op3 tb3 n3 v3 gad args3.length gac) (t:=27)).kept hb7);have T7:=Lib.hid ht7;clear hb7 ht7 F6 T6
   refine Ah rfl (.tmp 61) (.tmp 69) 25 rfl 27 (.agg #[.int .i64 0,.string ⟨#[]⟩,.string ⟨#[]⟩,.int .i64 0,.int .i64 0,.string ⟨#[]⟩,.slice none 0 0]) 7 96 underlying25 Kg rfl (by decide) w.heap.size (.slice aa acc.length acp) acc.length xs rfl (F7.out.own (i:=0) rfl) (.slice (some ⟨w6.heap.size,0,none⟩) 1 1) 1 [.int .i64 op3,.string ⟨tb3.toArray⟩,.string ⟨n3.toArray⟩,.int .i64 v3.k,.int .i64 v3.n,.string v3.s,.slice gad args3.length gac] rfl (by decide) (D4 (F7.out.blk 0 rfl) (by decide)) rfl (by simp[Value.oneCell']) (by omega) (by unfold maxLen;omega) F7.out.size ?_;intro v8 w8 hown hg8 hw8 hsl8;obtain⟨g8,c8,rfl⟩:=hsl8;have F8:=Lib.hid ((F7.out.grown (i:=0) (r':=⟨27,7,.slice (some ⟨g8,0,none⟩) (acc.length+1) c8,acc.length+1,xs++[.int .i64 op3,.string ⟨tb3.toArray⟩,.string ⟨n3.toArray⟩,.int .i64 v3.k,.int .i64 v3.n,.string v3.s,.slice gad args3.length gac]⟩) rfl hg8 hown hw8).tail);have T8:=Lib.hid (T7.out.trans (Turn.of_grown hg8) (fun _ _ h=>h));clear hown hg8 hw8 F7 T7;refine⟨T8.out,?_⟩;repeat(refine A0 rfl (fun K hK=>?_);go_simp;first|(refine hK _ ?_;clear hK K)|(apply Exists.intro;refine⟨fun _=>?_,hK _ ?_⟩;(fail);clear hK K))
   refine B3 ?_;intro w9 hb9 _;have F9:=Lib.hid (F8.out.kept hb9);clear hb9 F8 T8;obtain⟨c6,f6,l6⟩:=Aa (o:=6) (F9.out.blk 0 rfl) rfl;go_wp2_with fail;have F10:=BF.set 0 (o:=6) (v:=.slice (some ⟨g8,0,none⟩) (acc.length+1) c8) F9.out rfl;go_roundw
   case rel=>
    refine⟨k+1,acc++[(.mk op3 tb3 n3 v3 args3:Ex)],some ⟨g8,0,none⟩,c8,xs++[.int .i64 op3,.string ⟨tb3.toArray⟩,.string ⟨n3.toArray⟩,.int .i64 v3.k,.int .i64 v3.n,.string v3.s,.slice gad args3.length gac],by go_num,by omega,HTK.out.symm,?_⟩;show BF _ _ _ _ _ _ _;rw[List.length_append];exact BF.addL F10
   case measure=>simp[intOf];omega
  ·obtain rfl:k=args.length:=by omega
   have hac:=HAC.out;rw[List.take_length]at hac;have HAC2:=Lib.hid hac;have F2:=Lib.hid (BF.fin (E:=exE) (by decide) (R:=[]) F1.out (fun _ h=>h));clear HAC hac F1 z6 z6f zl;obtain⟨z6,_,zl⟩:=Aa (o:=6) (F2.out.blk 2 rfl) rfl;go_wp2_with(first|(refine wpList_load_row rfl 27 (.tmp 5) rfl (w.heap.size+1+1) rfl 27 (exA op tg n v aa acc.length acp) (0,0) _ (F2.out.blk 0 rfl) underlying27 rfl (Kn _ _ _ _ _ _ _) ?_)|(refine wpList_store_row rfl 27 (.tmp 4) (.tmp 72) rfl (w.heap.size+1) (exA op tg n v aa acc.length acp) rfl rfl 27 (exA 0 [] [] V.null none 0 0) (F2.out.blk 1 rfl) (Kn _ _ _ _ _ _ _) rfl (by simp[Value.oneCell']) ?_));have SE:=BF.row 1 (exA op tg n v aa acc.length acp) F2.out rfl;simp only[List.set_cons_zero,List.set_cons_succ]at SE;refine bodyPost_ret (v:=.agg (exA op tg n v aa acc.length acp)) (results_cell_row rfl _ _ (w.heap.size+1) 27 (exA op tg n v aa acc.length acp) (0,0) _ rfl (SE.blk 1 rfl) underlying27 rfl (Kn _ _ _ _ _ _ _)) rfl ?_;refine⟨(exA op tg n v aa acc.length acp).toList,rfl,?_,SE.below⟩;rw[<- HAC2.out];exact Bc (M9 (Bt SE.far.2 (by decide) (fun b h=>h.1)))
end Go.Proofs.YtjmmbebkbkgefaaGreatDoor
