/-
  Steps that stand at several places of the texts, written once. No condition.
-/
import Derived.Deep.Quiet
import Derived.StillTail
import Derived.Lib.QuietBelow
import Derived.WalkKit
import Derived.Handy
import Derived.ProofKit
import Derived.OpenShut
import Derived.Carry
import Derived.Lib.Hide
import Derived.Deep.Cut
import Derived.LoopTactic
namespace Go
open Go.RowKit
@[go_sem] abbrev eS:Value:=.string ⟨#[]⟩
@[go_sem] abbrev eL:Value:=.slice none 0 0
@[go_sem] abbrev U(n:Int):Value:=.int .i64 n
@[go_sem] abbrev Y(s:List UInt8):ByteArray:=⟨s.toArray⟩
@[go_sem] abbrev O(b:Nat):Option Addr:=some ⟨b,0,none⟩
variable{P Q:Prop}
theorem fx_{P Q:Prop}(p:P)(h:P=Q:=by simp only[St.Facts,cellFacts,apartFacts,and_true];exact rfl):Q:=h▸p
theorem acw(h:P:=by omega):P:=h
theorem acx(h:P:=by simp):P:=h
theorem acy(h:P:=by decide):P:=h
theorem acz(h:P:=by kernel_rfl):P:=h
theorem ac0(h:P:=by decide+kernel):P:=h
theorem Oe(h:P:=by simp only[World.cell?,S.out.at];rfl):P:=h
theorem Rf(h:P:=by simp only[World.cell?,hx];rfl):P:=h
theorem Xr(h:P:=by simp only[World.cell?,hy];rfl):P:=h
theorem Ze(h:P:=by simp only[World.cell?,S.out.at.x];rfl):P:=h
theorem Zf(h:P:=by simp only[World.cell?,S.out.at.r];rfl):P:=h
theorem Zq(h:P:=by simp only[World.cell?,F];rfl):P:=h
theorem ai(h:P:=by simp only[World.cell?,World.alloc_heap_new];rfl):P:=h
theorem ax(h:P:=by simp only[World.cell?,hv];rfl):P:=h
theorem cy(h:P:=by simp only[World.cell?,zh];rfl):P:=h
theorem gd(h:P:=by simp only[World.cell?,hbo];rfl):P:=h
theorem kr(h:P:=by simp only[World.cell?,h1.r];rfl):P:=h
theorem lg(h:P:=by simp only[World.cell?,h.x];rfl):P:=h
theorem lj(h:P:=by simp only[World.cell?,h.r];rfl):P:=h
theorem ng(h:P:=by simp only[World.cell?,hb];rfl):P:=h
theorem oh(h:P:=by simp only[World.cell?,yh];rfl):P:=h
theorem pd(h:P:=by simp only[World.cell?,h1];rfl):P:=h
theorem qd(h:P:=by simp only[World.cell?,hbl];rfl):P:=h
abbrev tm:=@Lib.hid
abbrev tu:=@Nat.le_refl
abbrev tr:=@Bool.and_eq_true
abbrev tp:=@Calls.mono
abbrev tw:=@List.length_cons
abbrev tx:=@List.length_nil
abbrev ua:=@List.length_append
abbrev tz:=@List.cons_append
abbrev ub:=@List.set_cons_zero
abbrev uc:=@List.nil_append
abbrev ud:=@cell_regrown
abbrev uh:=@Array.getElem?_eq_some_iff
abbrev ug:=@World.size_alloc
abbrev ue:=@bodyPost_ret
abbrev uk:=@decide_eq_true_eq
abbrev ui:=@List.set_cons_succ
abbrev uj:=@Below.refl
abbrev uq:=@List.mem_of_getElem?
abbrev ur:=@wpList_store_row
abbrev us:=@beq_eq_false_iff_ne
abbrev uu:=@List.getElem?_eq_some_iff
abbrev um:=@List.setIfInBounds_toArray
abbrev ut:=@List.eq_nil_of_length_eq_zero
abbrev uv:=@List.append_assoc
abbrev uz:=@Option.some.injEq
abbrev uw:=@List.mem_cons
abbrev u0:=@Nat.add_zero
abbrev ux:=@wpList_load_row
abbrev vg:=@List.all_eq_true
abbrev vh:=@List.mem_singleton
abbrev vd:=@List.getElem?_eq_getElem
abbrev vj:=@Nat.le_trans
abbrev u9:=@Bool.false_eq_true
abbrev vf:=@decide_eq_true
abbrev vm:=@decide_eq_false
abbrev vl:=@List.not_mem_nil
abbrev vr:=@List.append_nil
abbrev vp:=@block_lt_of_cell
abbrev ww:=@List.drop_eq_getElem_cons
abbrev vw:=@Nat.lt_of_lt_of_le
abbrev uo:=@and_true
abbrev vq:=@rounds_succ
abbrev wi:=@List.mem_append
abbrev v8:=@List.flatMap_cons
abbrev vx:=@World.ownsRow.lt
abbrev vt:=@below_regrown
abbrev vy:=@Bool.or_eq_true
abbrev vo:=@List.drop_succ_cons
abbrev xq:=@List.getElem?_cons_succ
abbrev xt:=@Option.some.inj
abbrev wg:=@results_cell_row
abbrev wu:=@List.mem_or_eq_of_mem_set
abbrev xx:=@List.getElem?_cons_zero
abbrev wj:=@List.mem_flatMap
abbrev wq:=@List.take_of_length_le
abbrev wk:=@Bool.true_and
abbrev wy:=@if_false
abbrev zn:=@List.take_succ_cons
abbrev vz:=@List.drop_zero
abbrev xr:=@Nat.zero_add
abbrev xe:=@Below.heap_alloc
abbrev xh:=@List.suffix_rfl
abbrev ye:=@Option.isSome_iff_exists
abbrev xj:=@List.getElem?_set
abbrev wm:=@wp_loop_rounds
abbrev xk:=@Below.heap_setCell
abbrev xp:=@or_false
abbrev yu:=@Nat.zero_le
abbrev yi:=@List.mem_iff_getElem?
abbrev xu:=@List.take_length
abbrev yg:=@Nat.zero_mul
abbrev xz:=@Nat.mul_le_mul_right
abbrev yp:=@List.map_cons
abbrev yx:=@Bool.eq_iff_iff
abbrev ze:=@Option.map_some
abbrev zr:=@List.length_map
abbrev aa7:=@List.cons.injEq
abbrev yd:=@List.take_succ_eq_append_getElem
abbrev zd:=@List.mem_map
abbrev yw:=@Array.getElem?_modify
abbrev yj:=@Bool.not_eq_true'
abbrev ym:=@Bool.eq_false_iff
abbrev zw:=@of_decide_eq_true
abbrev yq:=@Nat.le_of_lt
abbrev yr:=@run_loadVar_row
abbrev zx:=@Nat.add_assoc
abbrev zm:=@Bool.false_and
abbrev aae:=@List.take_append_drop
abbrev zk:=@List.mem_cons_of_mem
abbrev yy:=@getD_replicate_false
abbrev zb:=@List.getD_eq_getElem?_getD
abbrev aaa:=@Option.map_eq_some_iff
abbrev zg:=@List.takeWhile_prefix
abbrev zi:=@List.all_cons
abbrev zj:=@decide_true
abbrev aaf:=@Prod.mk.injEq
abbrev aal:=@decide_eq_false_iff_not
abbrev aai:=@List.getElem?_map
abbrev aab:=@List.append_eq_nil_iff
abbrev aac:=@Nat.mul_one
abbrev zo:=@List.takeWhile_cons_of_pos
abbrev zp:=@beq_iff_eq
abbrev aa2:=@List.getElem?_append_right
abbrev zy:=@Option.getD_some
abbrev aaj:=@List.drop_length
abbrev zq:=@List.pairwise_iff_getElem
abbrev zt:=@decide_false
abbrev aap:=@List.of_mem_zip
abbrev zu:=@Nat.lt_succ_of_lt
abbrev zv:=@List.nodup_append
abbrev aah:=@World.ownsRow_nil
abbrev zz:=@List.map_toArray
abbrev aad:=@List.map_nil
abbrev aba:=@List.mem_cons_self
abbrev abb:=@List.getElem?_drop
abbrev aag:=@not_true_eq_false
abbrev aa6:=@List.mem_of_find?_eq_some
abbrev ab0:=@List.getElem?_append_left
abbrev aak:=@Array.getElem?_setIfInBounds_ne
abbrev aam:=@Bool.false_or
abbrev aan:=@decide_eq_true_iff
abbrev aao:=@List.contains_cons
abbrev aaq:=@List.nodup_cons
abbrev aar:=@World.size_setCell
abbrev abk:=@List.map_append
abbrev aas:=@List.ext_getElem?
abbrev aat:=@callsIn_wide
abbrev abs:=@Array.getElem?_setIfInBounds
abbrev aau:=@World.cell?_of_block
abbrev aav:=@Region.noSelect_spec
abbrev aaw:=@Array.replicate_zero
abbrev aax:=@Array.replicate_succ
abbrev aay:=@execOp_put
abbrev aaz:=@ready_mono
abbrev aa0:=@List.takeWhile_cons_of_neg
abbrev abx:=@List.isPrefixOf_iff_prefix
abbrev aa3:=@Below.grown
abbrev aa4:=@List.append_toArray
abbrev aa5:=@Array.length_toList
abbrev aib:=@List.length_pos_iff
abbrev aa8:=@wpList_plain
abbrev aa9:=@Bool.true_or
abbrev abc:=@run_underlying
abbrev abt:=@List.tail_cons
abbrev ab9:=@Option.bind_eq_some_iff
abbrev abd:=@List.size_toArray
abbrev abe:=@List.push_toArray
abbrev abf:=@List.contains_nil
abbrev abg:=@not_false_eq_true
abbrev acd:=@run_convert_bytes_back
abbrev abh:=@Nat.lt_irrefl
abbrev abi:=@Region.free_spec
abbrev abj:=@Nat.and_two_pow_sub_one_eq_mod
abbrev abl:=@Nat.lt_trans
abbrev abm:=@List.map_set
abbrev aic:=@List.mem_of_mem_drop
abbrev abn:=@World.ownsRow.cells
abbrev abo:=@List.toList_toArray
abbrev abp:=@List.getD_cons_zero
abbrev abq:=@List.flatMap_append
abbrev abr:=@List.takeWhile_append_of_pos
abbrev ach:=@List.mem_range
abbrev abu:=@Nat.one_mul
abbrev acf:=@Nat.add_mul
abbrev abv:=@Option.toList_some
abbrev abw:=@Option.isSome_none
abbrev aby:=@Bool.or_false
abbrev abz:=@wpList_append_own
abbrev ab1:=@List.extract_eq_take_drop
abbrev ab2:=@info_parts
abbrev ab3:=@bne_iff_ne
abbrev ab4:=@wanted_put
abbrev ab5:=@List.suffix_cons
abbrev ab6:=@List.getElem_mem
abbrev ab7:=@Nat.add_comm
abbrev ab8:=@List.set_set
abbrev aca:=@List.length_eq_zero_iff
abbrev acb:=@List.length_zip
abbrev ace:=@List.drop_of_length_le
abbrev acg:=@List.getElem?_eq_none
abbrev aci:=@Array.mk.injEq
abbrev Ar:=@List.getElem?_of_mem
abbrev Cr:=@List.contains_eq_mem
abbrev Di:=@Array.toList_extract
abbrev Hr:=@Array.toArray_toList
abbrev aco:=@wpS_region
abbrev acq:=@List.cons.inj
structure Kt(Q:Prop):Prop where
 out:Q
theorem mg(h:P:=by
 intro ve we hown hg hw hsl;obtain⟨ge,ce,rfl⟩:=hsl;have SE:=tm ((SD.out.grown (i:=1) (r':=⟨44,7,.slice (O ge) (ex.length+1) ce,ex.length+1,acs++[U 0,eS,eS,U 0,U 0,eS,eL]⟩) rfl hg hown hw).tail);have HTE:=tm (HTD.out.trans (Turn.of_grown hg) (fun _ _ h=>.inr h));clear hown hg hw HTD SD;refine⟨HTE.out,gm ?_⟩;intro wf hbf _;have SF:=tm (SE.out.kept hbf);clear hbf HTE SE;simp only[ub,ui]at SF;have hal:acs.length=ex.length * 7:=by
  have h1:=LIn.len SF.out.far.1.2;exact h1
 have HAL:=tm hal;have e3:(ex++[Ex.mk op t3 n3 v3 args]).length=ex.length+1:=acx;have FIN:Hid (∀W,XFr pb sz ws W ((xb,uArr tb (.slice (O g) (ns.length+1) c0) (.slice (O ge) (ex.length+1) ce),50)::L) (⟨9,1,.slice (O g) (ns.length+1) c0,ns.length+1,strVals ns++[.string (Y ab)]⟩::⟨44,7,.slice (O ge) (ex.length+1) ce,ex.length+1,setFrom (acs++[U 0,eS,eS,U 0,U 0,eS,eL]) (ex.length * 7) [U op,.string (Y t3),.string (Y n3),U v3.k,U v3.n,.string v3.s,.slice ad args.length ac]⟩::RR) r ((G.and (farL exE ex acs)).and (farEx (.mk op t3 n3 v3 args) [U op,.string (Y t3),.string (Y n3),U v3.k,U v3.n,.string v3.s,.slice ad args.length ac]))->Post pb sz (RSet pb sz ws xb tb ns ex L RR G) y ws (.returned (.bool true)) W):=fun W SW=>by
  refine XFr.done SW HM.out (fun SE=>⟨rfl,some ⟨g,0,none⟩,c0,some ⟨ge,0,none⟩,ce,acs++[U op,.string (Y t3),.string (Y n3),U v3.k,U v3.n,.string v3.s,.slice ad args.length ac],fun l' hl'=>?_⟩);rw[<- HAL.out,Ga [U op,.string (Y t3),.string (Y n3),U v3.k,U v3.n,.string v3.s,.slice ad args.length ac] [U 0,eS,eS,U 0,U 0,eS,eL] acs rfl]at SE;simp only;rw[e1,e2,e3];exact(SE.imp (G2:=G.and (farL exE (ex++[.mk op t3 n3 v3 args]) (acs++[U op,.string (Y t3),.string (Y n3),U v3.k,U v3.n,.string v3.s,.slice ad args.length ac]))) (fun Q w h=>⟨h.1.1,LIn.append h.1.2 (LIn.one (E:=exE) (e:=.mk op t3 n3 v3 args) (cs:=[U op,.string (Y t3),.string (Y n3),U v3.k,U v3.n,.string v3.s,.slice ad args.length ac]) h.2)⟩)).tok hl'
 show wpAny _ _ _ _ 4 _ _ _;refine B3 [7,9] acz acx ?_;intro i hi;simp only[uw,vl,xp]at hi;rcases hi with rfl|rfl
 ·skip;refine wpOp_of_list rfl rfl ?_;go_wp2_with fail;refine B3 [8,9] acz acx ?_;intro i hi;simp only[uw,vl,xp]at hi;rcases hi with rfl|rfl
  ·skip;refine z64 ?_;intro T;refine B3 [9] acz acx ?_;intro i hi;obtain rfl:i=9:=by simpa using hi
   clear hi;refine wpOp_of_list rfl rfl ?_;go_wp2_with fail;exact z82
  ·exact z27
 ·skip;refine wpOp_of_list rfl rfl ?_;go_wp2_with fail;refine B3 [7,10] acz acx ?_;intro i hi;simp only[uw,vl,xp]at hi;rcases hi with rfl|rfl
  ·exact z27
  ·skip;refine wpOp_of_list rfl rfl ?_;obtain⟨f,f2,f3⟩:=SF.out.cellF (j:=0) rfl 13 _ rfl;go_wp2_with fail;have T:=tm (XFr.set 0 (o:=13) (v:=.slice (O ge) (ex.length+1) ce) SF.out rfl);simp only[ub,Hl]at T;clear f f2 f3;refine B3 [7] acz acx ?_;intro i hi;obtain rfl:i=7:=by simpa using hi
   clear hi;refine wpOp_of_list rfl rfl ?_;go_wp2_with fail;exact z59):P:=h
theorem z1003(k:Q)(h:Kt Q->P:=by
 intro kk;refine z1076 ?_;intro F;go_wp2_with fail;revert F;exact kk.out):P:=h ⟨k⟩
theorem mf(h:P:=by
 go_wp2_with fail;have SA:=tm (PFr.alloc (cs:=#[U 0,U 0,U 0,U 0,eS]) (t:=151) S.out);try(simp only[ub,ui,um]at SA)
 clear S G;refine PFr.post SA.out (name_any pb sz _ _ SA.out.psr) (fun p q h=>by rw[HM.out,h];rfl) (fun _ _ h=>⟨rfl,h⟩) ?_;intro a6 r6 v6 w6 h6 hv6 ht S;replace HM:=HM.out;rw[h6]at HM;refine qy ?_;clear HM;intro HM;clear h6;obtain rfl:=hv6;clear SA;go_wp2_with fail;refine PFr.sees S.out ?_;clear S;intro w7 bb hb7 S;obtain⟨mb,hops⟩:=S.out.psr.ops (seesWord r6) S.out.psr.sees_len;obtain⟨m,m1,_⟩:=hops w7 (tu _) (fun _ _=>rfl);have HOPS:=tm hops;have HNE:=tm (K3 (s:=seesWord r6));clear hops hb7;obtain⟨sw,hsw⟩:∃sw,seesWord r6=sw:=⟨_,rfl⟩;have HSW:=tm hsw;rw[hsw]at HM HNE HOPS m1 ⊢;obtain⟨pr,hpr⟩:∃pr,opPair sw=pr:=⟨_,rfl⟩;rw[hpr]at HM HNE HOPS m1;obtain⟨po,pl⟩:=pr;simp only at HM HNE HOPS m1;clear hsw hpr;have g:=fun w=>Qp po pl w;have g:=fun w=>Mz po pl w;refine z1076 ?_;intro F;by_cases h3:pl=3
 ·subst h3;replace HM:Hid (y=(literalR sz r6.tail).bind fun v l4=>(wantsR sz [[41]] l4).map fun _=>⟨0,po,v⟩):=by show _=_;rw[HM.out,if_neg acx];rfl
  have hne:=HNE.out rfl;go_wp2_with fail;refine PFr.takes (PFr.laid (S.out)) sw (blk_at acx) acy ?_ ?_
  ·intro r w8 hn ht S8;have hr:r=r6.tail:=by
    have:=C7 (l:=r6) (by rw[HSW.out];exact hne);exact pz
   subst hr;have y0:∀p:TurnW (·=pb) w8,p.w.cell? ⟨0,0,none⟩=some (.map (some mb))/\(Instr.lookup 213 (.map (some mb)) (.string (Y sw)) false).run prog p.w=.ok (.agg #[U po,U 3]) p.w:=fun p=>by exact m9
   have y1:=fun p=>(y0 p).1;have y2:=fun p=>(y0 p).2;clear hn ht HOPS HNE HSW m m1 F S y0;go_wp2_with fail;refine Av (·=pb) (fun c w'=>Post pb sz RChk y w (.panicked c) w') (fun _ _ _ hd h=>⟨hd,h⟩) 7 [(0,false),(1,false),(2,false),(3,false),(4,false),(6,false),(5,true)] acz acz ?_;refine adr ?_;refine acm rfl rfl ?_;intro w9 hb9 ht;have S:=tm (S8.out.kept hb9);have HT:=tm ht;clear hb9 ht y1 y2 S8;go_wp2_with fail;refine PFr.post S.out (Gr pb sz _ _ S.out.psr) (fun p q h=>by rw[HM.out,h];rfl) (fun _ _ h=>h) ?_;clear S;intro a1 r v1 w10 h2 hv1 ht S;refine z61 ?_;clear h2;intro HM;obtain rfl:=hv1;go_wp2_with fail;refine⟨HT.out.trans ht (fun _ _ h=>h),B8 ?_⟩;intro w11 hb1 _;replace S:=tm (S.out.kept hb1);clear hb1 HT ht;refine z279 ?_;refine z1076 ?_;intro F;go_wp2_with fail;refine PFr.wants (PFr.laid (PFr.set 0 (PFr.set 0 (PFr.set 0 (PFr.set 0 (S.out) rfl) rfl) rfl) rfl)) [[41]] (blk_at acx) rfl acy rfl acy acy (fun p q h=>by rw[HM.out,h];try rfl) (fun _ _ h=>⟨rfl,h⟩) ?_;clear S;intro r w12 h2 ht S;replace HM:=HM.out;rw[h2]at HM;simp only[Res.map]at HM;replace HM:=tm HM;clear h2 ht F;simp only[ub,ui,um]at S;refine z1076 ?_;intro F;go_wp2_with fail;refine ue (v:=.agg #[U 0,U po,U a1.k,U a1.n,.string a1.s]) (by simp[results,results185,go_sem,F]) rfl ?_;exact p4
  ·exact p8
 ·exact lf):P:=h
theorem z1006(k:Q)(h:Kt Q->P:=by
 intro kk;replace HM:=HM.out;simp only[hn]at HM;replace HM:=tm HM;refine z152 ?_;intro f1 f2 f3;revert f3;revert f2;revert f1;revert HM;exact kk.out):P:=h ⟨k⟩
theorem Zt(h:P:=by
 clear HE2 hr C;by_cases hv:v=V.null
 ·have HE4:Hid (y=if n++t=[]then args.all Ex.formed else false):=by show _=_;rw[HE3.out,if_neg (fun h=>h.2 hv),if_neg acw]
  subst hv;simp only[V.null]at F;exact z36
 ·exact z90):P:=h
theorem Kb(k:Q)(h:Kt Q->P:=by
 intro kk;have HM:=tm (uq hx);obtain⟨q,hq⟩:∃q,decide (0<k)=q:=⟨_,rfl⟩;have hqi:decide ((0:Int)<(k:Int))=q:=by rw[<- hq];simp
 have hwl:(whenP q [[44]]).length<=1:=by clear kk;cases q<;>simp[whenP]
 rw[hq]at HST hle;have hn2:=HN.out;obtain⟨fa,hfa⟩:∃fa,f a=fa:=⟨_,rfl⟩;rw[hfa]at HST hle;revert hle;revert HST;revert hfa;revert fa;revert hn2;revert hwl;revert hqi;revert hq;revert q;revert HM;exact kk.out):P:=h ⟨k⟩
theorem z11(h:P:=by
 simp only[hj]at *;rw[ab4 oj a oi.dst v h1]at h;split
 ·rename_i hw;simp only[hw,if_true]at h;rcases h with⟨u,hu,hn⟩|h
  ·exact qq
  ·refine .inr fun w hw1 hw2=>?_;rcases h w hw1 hw2 with h|⟨hasks,hlets⟩
   case inr=>exact .inr ⟨by unfold Oper.asks at *;rw[aay oj hsj a oi.dst v h1]at hasks;exact hasks,hlets⟩
   refine .inl ?_;unfold Oper.wp at *;rw[aay oj hsj a oi.dst v h1]at h;generalize (execOp a.eval oj).run P w=r at *
   cases r with
   | ok n w'=>
    cases n<;>simp only[Oper.upon]at h ⊢
    case value u=>exact⟨h.1,keep a hy u,by rw[<- Act.put_comm a v u h2];exact h.2⟩
    case skip=>exact⟨h.1,keep a hy _,by rw[<- Act.put_comm a v undef h2];exact h.2⟩
    case defer d=>exact Zg
    case enter f args=>
     refine tp h fun e w'' he=>?_
     cases e with
     | returned u=>exact⟨he.1,keep a hy u,by rw[<- Act.put_comm a v u h2];exact he.2⟩
     | panicked c=>exact absurd he.1 acx
     | outgrown=>exact he
    case row row args=>exact Rows.mono h fun u w'' he=>⟨he.1,keep a hy u,by rw[<- Act.put_comm a v u h2];exact he.2⟩
   | halt x w'=>
    cases x<;>simp only[Oper.upon]at h ⊢
    case panic u=>exact absurd h.1 acx
 ·exact pu):P:=h
theorem z12(k:Q)(h:Kt Q->P:=by
 intro kk;intro w2 hn ht S2;have HM2:Hid (y=.ok acc lr):=by
  clear kk;show _=_;rw[HM.out]
  cases hf:lr.length with
  | zero=>rfl
  | succ f=>rw[Ci,hn]
 have HA2:=tm (((HA.out.kept ((uj _ _).alloc (tu _) _))).turned ht (fun b hb e=>by have h1:=S2.out.lt;have h2:b=pb:=e;omega));clear hn ht;go_wp2_with fail;revert HA2;revert HM2;revert S2;revert w2;exact kk.out):P:=h ⟨k⟩
theorem z14(h:P:=by
 have HZ:=tm HSK2.out.1;have HNX:=tm HSK2.out.2;clear HSK2;go_wp2_with fail;go_roundw
 case rel=>
  refine⟨by first|rfl|trivial,?_⟩;by_cases hkf:k=f
  ·subst hkf;exact .inl ⟨k+1,0,by omega,by omega,by omega,by omega,rfl,by go_num,by go_num,HNX.out (fun h=>h.2 rfl)⟩
  ·obtain rfl:k=j:=HZ.out rfl hkf;exact .inr ⟨k+1,0,by omega,rfl,by go_num,by go_num⟩
 case measure=>simp[intOf];omega):P:=h
theorem z16(h:P:=by
 intro w2 S;have F2:=fx_ S.out.tail.facts;clear Sc F;go_wp2_with fail;refine S.out.call (CC.out _ _ (S.out.old H.out) S.out.wrt (S.out.env H.out HE.out) (by simp;omega)) ?_;clear S;intro w3 S;clear F2;go_wp2_with fail;refine(WFr.alloc S.out).call (put_any [[41]] _ _ (WFr.alloc S.out).wrt ((WFr.alloc S.out).env H.out HE.out).hi (slAt_parts ((WFr.alloc S.out).blk 0 rfl) rfl rfl acy) acx (by simp;omega)) ?_;intro w4 S;go_wp2_with fail;go_returns;have hd:=S.out.done;simp only[uv,tz,uc]at hd;exact hd):P:=h
theorem z18(k:Q)(h:Kt Q->P:=by
 intro kk;obtain⟨q0,qf,ql⟩:=Aa (o:=0) (S.out.blk 0 rfl) rfl;obtain⟨q1,q1f,q1l⟩:=Aa (o:=1) (S.out.blk 0 rfl) rfl;obtain⟨q2,q2f,q2l⟩:=Aa (o:=2) (S.out.blk 0 rfl) rfl;obtain⟨q3,q3f,q3l⟩:=Aa (o:=3) (S.out.blk 0 rfl) rfl;obtain⟨q4,q4f,q4l⟩:=Aa (o:=4) (S.out.blk 0 rfl) rfl;obtain⟨q5,q5f,q5l⟩:=Aa (o:=5) (S.out.blk 0 rfl) rfl;revert q5l;revert q5f;revert q5;revert q4l;revert q4f;revert q4;revert q3l;revert q3f;revert q3;revert q2l;revert q2f;revert q2;revert q1l;revert q1f;revert q1;revert ql;revert qf;revert q0;exact kk.out):P:=h ⟨k⟩
theorem U5(h:P:=by
 go_wp2_with fail;go_returns;exact⟨rfl,uj _ _⟩):P:=h
theorem Hx(k:Q)(h:Kt Q->P:=by
 intro kk;have C:=tm (HG.out wr a cs HB.out (uq hx) hin);have hst:idxFrom p k (l.drop k)=if p a then(k:Int)else idxFrom p (k+1) (l.drop (k+1)):=by
  clear kk;obtain⟨h,rfl⟩:=uu.1 hx;rw[ww h,idxFrom]
 have HST:Hid (idxFrom p 0 l=_):=HK.out.trans hst;revert HST;revert hst;revert C;exact kk.out):P:=h ⟨k⟩
theorem z22(h:P:=by
 by_cases hz:d=0
 ·obtain rfl:d=0:=acw;exact z14
 ·have hzb:(d==0)=false:=by rw[us];exact hz
  have HNX:=tm HSK2.out.2;clear HSK2;go_wp2_with fail;go_roundw
  case rel=>exact⟨by first|rfl|trivial,.inl ⟨k+1,d,by omega,by omega,by omega,by omega,rfl,by go_num,by go_num,HNX.out (fun h=>hz h.1)⟩⟩
  case measure=>simp[intOf];omega):P:=h
theorem z23(h:P:=by
 go_wp2_with fail;go_returns;exact⟨by rw[HR.out];rfl,S.out.below⟩):P:=h
theorem z24(h:P:=by
 show _=_;rw[HE.out];by_cases hr:v.right=false
 ·rw[if_pos (.inr (.inr (.inr hr))),if_pos hr]
 ·rw[if_neg (by rintro(h|h|h|h)<;>first|omega|exact hr h),if_neg hr];try rfl):P:=h
theorem z25(k:Q)(h:Kt Q->P:=by
 intro kk;simp only[St.Facts,cellFacts,apartFacts,uo]at F;revert F;exact kk.out):P:=h ⟨k⟩
theorem z26(h:P:=by
 go_wp2_with fail;go_returns;exact⟨by rw[HF.out];rfl,S.out.below⟩):P:=h
theorem z27(h:P:=by
 skip;refine wpOp_of_list rfl rfl ?_;go_wp2_with fail;refine B3 [8,10] acz acx ?_;intro i hi;simp only[uw,vl,xp]at hi;rcases hi with rfl|rfl
 ·skip;refine z64 ?_;intro T;exact z82
 ·skip;refine wpOp_of_list rfl rfl ?_;obtain⟨f,f2,f3⟩:=SF.out.cellF (j:=0) rfl 13 _ rfl;go_wp2_with fail;have T:=tm (XFr.set 0 (o:=13) (v:=.slice (O ge) (ex.length+1) ce) SF.out rfl);simp only[ub,Hl]at T;clear f f2 f3;exact z59):P:=h
theorem z28(h:P:=by
 go_wp2_with fail;all_goals go_returns
 all_goals exact⟨by rw[HR.out];rfl,S.out.below⟩):P:=h
theorem z29(k:Q)(h:Kt Q->P:=by
 intro kk;rw[hps];refine z125 ?_;intro hmf;have SZ:Hid (St w ((w.alloc (.cells (SV.arr {}) 50)).alloc (.cells #[U 0,U 0] 26)) [(w.heap.size+1,#[U 0,U 0],26),(w.heap.size,SV.arr {},50)]):=qk;have HE:=tm he;have HX:=tm hx;have HST:=tm hst;have C:=tm (fun W (h:Env B W)=>Fa s hs W h);rw[hx]at C;have hsz:(⟨s.toArray⟩:ByteArray).size=s.length:=by show s.toArray.size=_;simp
 revert hsz;revert C;revert HST;revert HX;revert HE;revert SZ;revert hmf;exact kk.out):P:=h ⟨k⟩
theorem L2(h:P:=by
 have S4:=tm (S3.out.grown hg4 (fun g hg=>(vx HO.out g hg).1));clear hown4 hg4 hw HO HI HE HG S3 S2;go_wp2_with fail;go_roundw
 case rel=>exact⟨acc++[a3],r3,HM3.out,by show _<=_;have h1:=HL.out;have h2:=hlen.out;have h3:=HL3.out;simp;omega,S4.out,HA4.out⟩
 case measure=>
  have h1:=HMS.out;have h2:=hlen.out;have h3:=HL3.out;rw[Bf S4.out.psr,h1];omega):P:=h
theorem z1033(h:P:=by
 go_wp2_with fail;go_returns;exact⟨rfl,S.out.below⟩):P:=h
theorem Dp(h:P:=by
 refine wp_region_mixed 5 [(0,false),(1,false),(2,false),(3,false),(4,false)] acz acz ?_;refine z1053 ?_;refine Ba ?_;intro w1 hb _;refine z252 ?_;intro S;clear y0 hb;refine z1003 ?_;intro F;all_goals go_returns
 all_goals exact⟨by rw[HR.out];rfl,S.out.below⟩):P:=h
theorem z35(h:P:=by
 exact⟨vj (by simp[SV.lists,sl0];try omega) HL.out.1,vj (by simp;try omega) HL.out.2⟩):P:=h
theorem z36(h:P:=by
 clear HE3;by_cases hnt:n++t=[]
 ·have HR:Hid (y=args.all Ex.formed):=by show _=_;rw[HE4.out,if_pos hnt]
  obtain⟨rfl,rfl⟩:=aab.1 hnt;have ec:(⟨#[]⟩:ByteArray)++⟨#[]⟩=⟨#[]⟩:=by rw[ByteArray.mk_append_mk [] []];rfl
  clear HE4 hnt C2 C3 HZ;go_wp2_with fail;refine tp (HC.out _ S.out.below) ?_;rintro e w3 ⟨rfl,hb⟩;exact z83
 ·have HR:Hid (y=false):=by show _=_;rw[HE4.out,if_neg hnt]
  have e1:=ByteArray.mk_append_mk n t;have kz:=HZ.out;have k1:(!(n++t).isEmpty)=true:=by cases hc:n++t with|nil=>exact absurd hc hnt|cons a l=>rfl
  clear HE4 C2 C3 HC HN HZ;exact z28):P:=h
theorem z1037(k:Q)(h:Kt Q->P:=by
 intro kk;refine z125 ?_;intro hmf;have SZ:Hid (St w ((w.alloc (.cells s.arr 50)).alloc (.cells (SV.arr {}) 50)) [(w.heap.size+1,SV.arr {},50),(w.heap.size,s.arr,50)]):=by
  clear kk;show St _ _ _;have:=St.alloc (St.alloc (St.start w) (cs:=s.arr) (t:=50)) (cs:=SV.arr {}) (t:=50);simpa only[ug]using this
 have H:=tm h;have HS:=tm h.sv;have HL:Hid (s.small):=⟨by rw[h.sv.lists];exact hl,by rw[h.sv.tb,h.sv.nm,h.sv.s0];exact ht⟩;have HWF:=tm hwf;have HNS:Hid ((x.names.length:Int)<=4611686018427387904):=by show _<=_;unfold Stm.lists at hl;omega
 have hkx:s.k=x.kind:=h.k;obtain⟨y,hy⟩:∃y,x.formed=y:=⟨_,rfl⟩;rw[hy];have HY:=tm hy;clear hy;revert HY;revert y;revert hkx;revert HNS;revert HWF;revert HL;revert HS;revert H;revert SZ;revert hmf;exact kk.out):P:=h ⟨k⟩
theorem z38(k:Q)(h:Kt Q->P:=by
 intro kk;refine z1053 ?_;refine wpM_tail ?_;exact kk.out):P:=h ⟨k⟩
theorem z40(h:P:=by
 rcases hs with hs|⟨hs,hc⟩
 ·intro listed _ i _ _ t ht hr;exact z267
 ·intro listed inv i hi hun t ht;by_cases hn':n<l.toArray.size
  ·exact tail_waits hs hc hn' inv _ i rfl hi hun t ht
  ·intro hr;exact z267):P:=h
theorem z41(h:P:=by
 obtain rfl:k=l.length:=acw;go_wp2_with fail;go_returns;have:=S.out.done;rw[xu]at this;exact this):P:=h
theorem z43(h:P:=by
 cases n<;>simp only[Oper.mildUpon]at h5<;>simp only[Oper.upon]
 case value u=>obtain⟨e1,e2⟩:=h5;rw[e1,e2];exact h _ _ _ h1 h2 h4
 case skip=>obtain⟨e1,e2⟩:=h5;rw[e1,<- e2];exact h _ _ _ h1 h2 h4
 case enter f args=>
  obtain⟨e1,hc⟩:=h5;rw[e1];exact hc.mono fun e w'' ⟨he,hw''⟩=>by subst he;exact h _ _ _ (h1.step hw'') (h2.step hw'') h4):P:=h
theorem z45(h:P:=by
 clear hst HNE HSW IHn;refine z1203 ?_;have HQ:∀c,(w.heap.size<c/\c≠w1.heap.size)->c≠w.heap.size:=fun c h e=>by omega
 refine z112 ?_;refine PFr.done (PFr.laid (PFr.set 1 (PFr.set 1 (PFr.set 1 (PFr.set 1 (PFr.set 1 (PFr.set 1 (PFr.set 1 (S2.out) rfl) rfl) rfl) rfl) rfl) rfl) rfl)) HM2.out (rEx_mk (ExSl.mono (Q:=fun b=>w.heap.size<b/\b≠w1.heap.size) (A9 ?_) (fun b hb=>yq hb.1)));repeat(refine A2 ?_ HQ)
 exact HA2.out):P:=h
theorem mc(h:P:=by
 exact key _ _ _ _ _ _ rfl ⟨z,z⟩ z ⟨z,by simp⟩ ⟨z,by simp⟩ (.inr rfl) Br):P:=h
theorem z47(k:Q)(h:Kt Q->P:=by
 intro kk;replace HM:=HM.out;simp only[hn]at HM;replace HM:=tm HM;simp only[ub,ui,um]at S;revert S;revert HM;exact kk.out):P:=h ⟨k⟩
theorem z48(h:P:=by
 by_cases hwt:Region.wanted o (yielded ops a.tmps)=true
 ·rw[if_pos hwt]at h;obtain⟨v,h1,h2⟩:=h;exact⟨v,.inl ⟨hwt,h1⟩,h2⟩
 ·rw[if_neg hwt]at h;exact⟨undef,.inr ⟨by simpa using hwt,rfl⟩,h⟩):P:=h
theorem ma(h:P:=by
 rw[hks]at kd;go_wp2_with fail;refine tp (j9 bo (w.heap.size+1) w.heap.size (true) (isName x.name) (s) s _ S.out.at (fun W _=>by rw[show s.nm=x.name from HS.out.nm];exact Ah x.name W)) ?_;intro e w4 hp;obtain⟨rfl,S⟩:=S.out.went hp;clear hp;generalize hq:(true&&isName x.name)=q at S;go_wp2_with fail;go_meet;refine⟨q,{s with nm:=[]},S.out,?_,?_⟩
 ·skip;rw[SvIs.unused (J1 HS.out),<- HY.out,<- hq];exact U4
 ·exact z35):P:=h
theorem z50(h:P:=by
 by_cases hlen:4000<js.length
 ·have hp:=HPR.out;rw[if_pos hlen]at hp;have hli:(4000:Int)<(js.length:Int):=acw;go_wp2_with fail;go_returns;exact⟨by rw[hp];rfl,HB.out⟩
 ·have hp:=HPR.out;rw[if_neg hlen]at hp;have hli:¬(4000:Int)<(js.length:Int):=acw;go_wp2_with fail;go_returns;exact⟨by rw[hp];rfl,HB.out⟩):P:=h
theorem z52(k:Q)(h:Kt Q->P:=by
 intro kk;replace HM:=HM.out;rw[h1]at HM;refine qy ?_;clear HM;intro HM;revert HM;exact kk.out):P:=h ⟨k⟩
theorem z1053(k:Q)(h:Kt Q->P:=by
 intro kk;repeat(refine wpM_mild rfl (fun K hK=>?_);go_simp;first|(refine hK _ ?_;clear hK K)|(apply Exists.intro;refine⟨fun _=>?_,hK _ ?_⟩;(fail);clear hK K))
 exact kk.out):P:=h ⟨k⟩
theorem z54(k:Q)(h:Kt Q->P:=by
 intro kk;have HE:=tm he;have HA3:=HA2.out.turned ht (fun b hb e=>by have h1:=S2.out.lt;have h2:b=pb:=e;omega);obtain⟨acs,hown,hin⟩:=HA3;have HG:Hid (∀g,(Value.slice a0 acc.length cap).ownBlock=some g->g<w2.heap.size):=fun g hg=>by
  clear kk;obtain⟨acs2,h2,_⟩:=HA2.out;exact(vx h2 g hg).2
 have HO:=tm hown;have HI:=tm hin;clear hown hin;revert HI;revert HO;revert HG;revert acs;revert HE;exact kk.out):P:=h ⟨k⟩
theorem z55(h:P:=by
 replace S:=tm S.out.tail;clear F;go_wp2_with fail;refine S.out.call (C.out _ _ _ _ (by simp;omega) HX.out (S.out.old H.out) S.out.wrt (S.out.env H.out HE.out)) ?_;clear S;intro w3 S;refine z1076 ?_;intro F;clear HX C;go_wp2_with fail;refine(WFr.alloc S.out).call (when_any b [[41]] _ _ (WFr.alloc S.out).wrt ((WFr.alloc S.out).env H.out HE.out).hi (slAt_parts ((WFr.alloc S.out).blk 0 rfl) rfl rfl acy) acx (by simp;omega)) ?_;intro w4 S;exact z182):P:=h
theorem z56(h:P:=by
 go_wp2_with fail;refine S2.out.drop.call (C.out _ S2.out.drop HI.out) ?_;intro w3 S;clear S2 HI C F;exact z157):P:=h
theorem z58(h:P:=by
 have HF:Hid (y=false):=by show _=_;rw[HR.out,zm]
 exact z26):P:=h
theorem z59(h:P:=by
 refine B3 [8] acz acx ?_;intro i hi;obtain rfl:i=8:=by simpa using hi
 clear hi;refine wpOp_of_list rfl rfl ?_;refine wpList_store_mid rfl 44 (.tmp 20) (.tmp 16) rfl ge (ex.length * 7) #[U op,.string (Y t3),.string (Y n3),U v3.k,U v3.n,.string v3.s,.slice ad args.length ac] rfl rfl (T.out.there (i:=1) rfl _ 7 (by simp;have:=HAL.out;omega)) (Fe _ _ _ _ _ _ _) (by simp[Value.oneCell']) ?_;have T:=tm (XFr.storeCells (i:=1) [U op,.string (Y t3),.string (Y n3),U v3.k,U v3.n,.string v3.s,.slice ad args.length ac] (ex.length * 7) _ _ _ T.out rfl);simp only[ub,ui]at T;dsimp only[Act.put];go_wp2_with fail;exact qj):P:=h
theorem z61(k:Q)(h:Kt Q->P:=by
 intro kk;replace HM:=HM.out;rw[h2]at HM;refine qy ?_;clear HM;intro HM;revert HM;exact kk.out):P:=h ⟨k⟩
theorem z62(k:Q)(h:Kt Q->P:=by
 intro kk;refine z277 ?_;intro H HE;have S:Hid (WFr base wb w (((w.alloc (.cells #[.pointer (O wb)] 85)).alloc (.cells #[U op,.string (Y t),.string (Y n),U v.k,U v.n,.string v.s,.slice a m c] 44)).alloc (.cells #[U 6] 3)) [(w.heap.size+1+1,#[U 6],3),(w.heap.size+1,#[U op,.string (Y t),.string (Y n),U v.k,U v.n,.string v.s,.slice a m c],44),(w.heap.size,#[.pointer (O wb)],85)] xs):=by
  clear kk;have:=WFr.alloc (WFr.alloc (WFr.alloc (WFr.start h) (cs:=#[.pointer (O wb)]) (t:=85)) (cs:=#[U op,.string (Y t),.string (Y n),U v.k,U v.n,.string v.s,.slice a m c]) (t:=44)) (cs:=#[U 6]) (t:=3);exact re
 revert S;revert HE;revert H;exact kk.out):P:=h ⟨k⟩
theorem z63(h:P:=by
 go_wp2_with fail;go_returns;exact⟨rfl,HB.out⟩):P:=h
theorem z64(k:Q)(h:Kt Q->P:=by
 intro kk;refine wpOp_of_list rfl rfl ?_;refine wpList_store_mid rfl 44 (.tmp 20) (.tmp 16) rfl ge (ex.length * 7) #[U op,.string (Y t3),.string (Y n3),U v3.k,U v3.n,.string v3.s,.slice ad args.length ac] rfl rfl (SF.out.there (i:=1) rfl _ 7 (by simp;have:=HAL.out;omega)) (Fe _ _ _ _ _ _ _) (by simp[Value.oneCell']) ?_;have T:=tm (XFr.storeCells (i:=1) [U op,.string (Y t3),.string (Y n3),U v3.k,U v3.n,.string v3.s,.slice ad args.length ac] (ex.length * 7) _ _ _ SF.out rfl);simp only[ub,ui]at T;dsimp only[Act.put];go_wp2_with fail;revert T;exact kk.out):P:=h ⟨k⟩
theorem z66(h:P:=by
 go_wp2_with fail;go_roundw
 case rel=>exact⟨k+1,by omega,by go_num,HR.out,HB1.out⟩
 case measure=>simp[intOf];omega):P:=h
theorem z67(k:Q)(h:Kt Q->P:=by
 intro kk;have HA6:=tm (A9 (o:=.cells #[U op,.string (Y t),.string (Y nm),U v.k,U v.n,.string v.s,.slice ad args.length ac,U op2,.string (Y t2),.string (Y nm2),U vv.k,U vv.n,.string vv.s,.slice ad2 args2.length ac2] 44) (HA5.out.kept hb6));have HB6:=tm (A9 (o:=.cells #[U op,.string (Y t),.string (Y nm),U v.k,U v.n,.string v.s,.slice ad args.length ac,U op2,.string (Y t2),.string (Y nm2),U vv.k,U vv.n,.string vv.s,.slice ad2 args2.length ac2] 44) (HB5.out.kept hb6));revert HB6;revert HA6;exact kk.out):P:=h ⟨k⟩
theorem z68(k:Q)(h:Kt Q->P:=by
 intro kk;have HN:=tm (Fv Ex.formed args);have C:=tm (fun W=>Bw v hw W);have C2:=tm (fun W=>Ah n W);have C3:=tm (fun W=>Ah t W);revert C3;revert C2;revert C;revert HN;exact kk.out):P:=h ⟨k⟩
theorem z69(h:P:=by
 obtain rfl:k=l.length:=acw;have HR:Hid (idxFrom p 0 l= -1):=by show _=_;rw[HK.out,aaj];rfl
 clear HK;go_wp2_with fail;go_returns;exact⟨by rw[HR.out];rfl,HB.out⟩):P:=h
theorem Oc(h:P:=by
 simp only[Cg,wt,tw,tx];omega):P:=h
theorem z71(h:P:=by
 go_wp2_with fail;refine ue (v:=.tuple #[.agg #[U 0,U 0,eS,U 0],U 0,U 381]) (by simp[results,results20,go_sem,F]) rfl ⟨by rw[HR.out];rfl,?_⟩;exact ri):P:=h
theorem lq(k:Q)(h:Kt Q->P:=by
 intro kk;have F:=Al H.blk [.slice (some ⟨b,o,none⟩) (r.length+1) cap,U sz] 0 (fun j=>acx);simp only[cellFacts,uo]at F;revert F;exact kk.out):P:=h ⟨k⟩
theorem z73(k:Q)(h:Kt Q->P:=by
 intro kk;go_wp2_with fail;refine PFr.wants (PFr.laid (S2.out)) [[41]] (blk_at acx) rfl acy rfl acy acy (fun p q h=>by rw[HM.out,h];try rfl) (fun _ _ h=>⟨rfl,h⟩) ?_;intro r w3 h3 ht S3;replace HM:=HM.out;rw[h3]at HM;simp only[Res.map]at HM;replace HM:=tm HM;have hs:=S.out.size;have hlt:=S.out.lt;have HA3:=tm (Ed acy (C:=w.heap.size) (Ed acy HA.out (Turn.of_below ((uj _ w2).alloc (tu _) _)) (fun _ _ h=>h) (tu _)) ht (fun b hb e=>by have h2:b=pb:=e;omega) hs);clear h3 ht hs hlt;go_wp2_with fail;revert HA3;revert HM;revert S3;revert w3;revert r;exact kk.out):P:=h ⟨k⟩
theorem z1076(k:Q)(h:Kt Q->P:=by
 intro kk;have F:=S.out.facts;refine z25 ?_;clear F;intro F;revert F;exact kk.out):P:=h ⟨k⟩
theorem z77(k:Q)(h:Kt Q->P:=by
 intro kk;intro w4 hn ht S;clear ht;refine z1006 ?_;clear hn;intro HM f1 f2 f3;revert f3;revert f2;revert f1;revert HM;revert S;revert w4;exact kk.out):P:=h ⟨k⟩
theorem z78(k:Q)(h:Kt Q->P:=by
 intro kk;rw[hb]at hn ⊢;simp only[ua]at hn;have hlen:∀p,(whenP b [p]).length<=1:=by clear kk;intro p;cases b<;>simp[whenP]
 have hl:=hlen [40];refine z125 ?_;intro hmf;clear hlen;go_enter func92,ntmps92;revert hmf;revert hl;revert hn;exact kk.out):P:=h ⟨k⟩
theorem z79(k:Q)(h:Kt Q->P:=by
 intro kk;refine Sc.out.call (when_any q [[44]] _ _ Sc.out.wrt (Sc.out.env H.out HE.out).hi (slAt_parts (Sc.out.blk 0 rfl) rfl rfl acy) acx (by simp;omega)) ?_;intro w2 S2;revert S2;revert w2;exact kk.out):P:=h ⟨k⟩
theorem z81(k:Q)(h:Kt Q->P:=by
 intro kk;rintro wa ⟨SA',HLR'⟩;have SA:=tm SA';have HLR:=tm HLR';have HF:=tm S0.out.psr.few;clear SA' HLR';revert HF;revert HLR;revert SA;revert wa;exact kk.out):P:=h ⟨k⟩
theorem z82(h:P:=by
 refine B3 [10] acz acx ?_;intro i hi;obtain rfl:i=10:=by simpa using hi
 clear hi;refine wpOp_of_list rfl rfl ?_;obtain⟨f,f2,f3⟩:=T.out.cellF (j:=0) rfl 13 _ rfl;go_wp2_with fail;have T:=tm (XFr.set 0 (o:=13) (v:=.slice (O ge) (ex.length+1) ce) T.out rfl);simp only[ub,Hl]at T;clear f f2 f3;exact qj):P:=h
theorem z83(h:P:=by
 refine z252 ?_;intro S;clear hb F;generalize (args.any fun a=>!a.formed)=b at *;go_wp2_with fail;exact ue (v:=.bool (!b)) (by simp[results,results116,go_sem]) rfl ⟨by rw[show y=!b from(by rw[HR.out,<- HN.out])],S.out.below⟩):P:=h
theorem ll(h:P:=by
 simp only[yp,aaq];refine⟨fun hm=>?_,h.apart⟩;obtain⟨x,hx,e⟩:=zd.1 hm;have:=(uh.1 (h.own x hx).2).1;omega):P:=h
theorem z86(k:Q)(h:Kt Q->P:=by
 intro kk;have HZ:Hid (¬9223372036854775807<n.length+t.length):=by show ¬_;have:=hnt;omega
 obtain⟨y,hy⟩:∃y,(Ex.mk op t n v args).formed=y:=⟨_,rfl⟩;rw[hy]at HE ⊢;clear hy;have S:Hid (St w (w.alloc (.cells #[U op,.string (Y t),.string (Y n),U v.k,U v.n,.string v.s,.slice ad args.length ac] 44)) [(w.heap.size,#[U op,.string (Y t),.string (Y n),U v.k,U v.n,.string v.s,.slice ad args.length ac],44)]):=St.alloc (St.start w);revert S;revert HE;revert y;revert HZ;exact kk.out):P:=h ⟨k⟩
theorem z87(k:Q)(h:Kt Q->P:=by
 intro kk;obtain⟨x,hx⟩:∃x,l1[k]?=some x:=⟨l1[k],by clear kk;simp[hlt]⟩;obtain⟨y,hy⟩:∃x,l2[k]?=some x:=⟨l2[k]'(by clear kk;rw[<- HN.out];exact hlt),by clear kk;rw[vd]⟩;revert hy;revert y;revert hx;revert x;exact kk.out):P:=h ⟨k⟩
theorem z88(h:P:=by
 rcases Nat.lt_or_ge j n with h|h
 ·exact h
 ·exact absurd hj (hw listed inv i hin hun j h)):P:=h
theorem z89(h:P:=by
 go_wp2_with fail;refine wm 1 ?_;rw[vq];exact U5):P:=h
theorem z90(h:P:=by
 have HR:Hid (y=false):=by show _=_;rw[HE3.out,if_pos ⟨by omega,hv⟩]
 have hv':¬(v.k=0/\v.n=0/\v.s.toList=[]):=by rw[<- Nf];intro h;exact hv ((V.ext_iff _ _).2 h)
 clear HE3 C2 C3 HC HN;go_wp2_with fail;all_goals first|(exfalso;exact hv' ⟨by assumption,by assumption,by assumption⟩)|skip
 all_goals go_returns
 all_goals exact⟨by rw[HR.out];rfl,S.out.below⟩):P:=h
theorem z91(h:P:=by
 simp only[World.cell?,h2];rfl):P:=h
theorem z92(h:P:=by
 intro listed a wc inv _ hr hy H;have hun:=(mem_ready.1 hr).1;refine⟨fun h=>(by rw[h]at hr;cases hr),fun j hj=>?_⟩;have hjn:j<n:=z88;refine⟨hjn,?_⟩;by_cases hji:j=i
 ·subst hji;exact hy.mOp hi H
 ·have:=hdone _ _ _ H j (aaz hj hji);omega):P:=h
theorem z93(h:P:=by
 intro j u hu;have e1:(⟨W.heap.size,0,none⟩:Addr).add j=⟨W.heap.size,j,none⟩:=by unfold Addr.add;split<;>simp_all
 rw[e1,World.cell?_alloc_at _ _ _ _ rfl];simpa using hu):P:=h
theorem z94(h:P:=by
 unfold opPair;rcases je E s hs w with⟨h1,h2⟩|⟨j,p,h1,h2⟩
 ·rw[h2];simp[Instr.lookup,abc underlying213,MapKept.run_getObj_map hb,cj.check w _ (str_key s hs),h1,fl,Result.andThen]
 ·rw[h2];simp[Instr.lookup,abc underlying213,MapKept.run_getObj_map hb,cj.check w _ (str_key s hs),h1,Result.andThen]):P:=h
theorem z95(h:P:=by
 apply aas;intro q;rw[xj];split
 ·rename_i e;subst e;split
  ·exact hi.symm
  ·rename_i hq;simp at hq;simp[acg hq]
 ·rfl):P:=h
theorem z96(h:P:=by
 intro x hx;obtain⟨j,hj⟩:=yi.1 hx;rw[xj]at hj;split at hj
 ·rename_i e;split at hj
  ·cases hj;exact⟨ho.1,hb⟩
  ·cases hj
 ·rename_i hne;have hox:=h.own x (uq hj);have hnb:=G9 h.apart hi hj hne;exact⟨hox.1,by rw[xk _ _ _ _ (Ne.symm hnb)];exact hox.2⟩):P:=h
theorem z97(h:P:=by
 simp only[tr]at hx;have hu:=Au hx.2;exact mo):P:=h
theorem z98(h:P:=by
 simp only[World.cell?,h1];rfl):P:=h
theorem z99(h:P:=by
 have hl:l=[]:=ut acw;subst hl;rfl):P:=h
theorem z101(k:Q)(h:Kt Q->P:=by
 intro kk;try(simp only[ub,ui,um,ug]at S)
 revert S;exact kk.out):P:=h ⟨k⟩
theorem adr(k:Q)(h:Kt Q->P:=by
 intro kk;repeat(refine wpM_mildP rfl (fun K hK=>?_);go_simp;first|(refine hK _ ?_;clear hK K)|(apply Exists.intro;refine⟨fun _=>?_,hK _ ?_⟩;(fail);clear hK K))
 exact kk.out):P:=h ⟨k⟩
theorem ru(k:Q)(h:Kt Q->P:=by
 intro kk;intro r w4 hn ht S;clear ht;refine z1006 ?_;clear hn;intro HM f1 f2 f3;revert f3;revert f2;revert f1;revert HM;revert S;revert w4;revert r;exact kk.out):P:=h ⟨k⟩
theorem z1105(k:Q)(h:Kt Q->P:=by
 intro kk;have F:=Al (S.out.blk 0 rfl) [U 0,U 0] 0 (fun j=>acx);simp only[cellFacts,uo]at F;have S3:Hid (St w (((w1.setCell ⟨w.heap.size+1,0,none⟩ (U 0)).setCell ⟨w.heap.size+1,1,none⟩ (U 0)).alloc (.cells #[.slice a l.length c,U (s.length:Int)] 114)) [(w1.heap.size,#[.slice a l.length c,U (s.length:Int)],114),(w.heap.size+1,#[U 0,U 0],26),(w.heap.size,SV.arr {},50)]):=by
  clear kk;show St _ _ _;have:=St.alloc (St.set 0 (o:=1) (v:=U 0) (St.set 0 (o:=0) (v:=U 0) S.out rfl) rfl) (cs:=#[.slice a l.length c,U (s.length:Int)]) (t:=114);rw[aar,aar]at this;exact this
 have hw:w.heap.size+1<w1.heap.size:=S.out.facts.1;revert hw;revert S3;revert F;exact kk.out):P:=h ⟨k⟩
theorem Rh(k:Q)(h:Kt Q->P:=by
 intro kk;have hst:=Lk f hx;have hle:=Qx f l (k+1);rw[hst]at hle;simp only[ua]at hle;have HST:=tm hst;revert HST;revert hle;revert hst;exact kk.out):P:=h ⟨k⟩
theorem ah8(h:P:=by
 refine z1003 ?_;intro F;refine ue (v:=.agg #[U 2,eS,eS,U a3.k,U a3.n,.string a3.s,eL]) (by simp[results,results230,go_sem,F]) rfl ?_;exact mu):P:=h
theorem rq(h:P:=by
 have HR:Hid (y=false):=by show _=_;rw[HE2.out,if_pos hr]
 clear HE2 C C2 C3 HC HN;exact z23):P:=h
theorem agv(h:P:=by
 go_wp2_with fail;go_roundw
 case rel=>exact⟨k+1,by omega,by go_num,HT3.out,HB3.out⟩
 case measure=>simp[intOf];omega):P:=h
theorem z112(k:Q)(h:Kt Q->P:=by
 intro kk;refine ue (v:=.agg #[U op,.string (Y t),.string (Y nm),U v.k,U v.n,.string v.s,.slice ad args.length ac]) (by simp[results,results188,go_sem,F]) rfl ?_;exact kk.out):P:=h ⟨k⟩
theorem z113(h:P:=by
 clear hn hr;go_wp2_with fail;go_roundw
 case rel=>exact⟨_,_,k+1,by omega,by rw[aha pre hu],rfl,by go_num,trivial,HR2.out⟩
 case measure=>simp[intOf];omega):P:=h
theorem nf(h:P:=by
 rw[hf]at CK;go_upto_region 6 with fail;go_wp2_with(refine Ap rfl 50 (.tmp 1) rfl w.heap.size rfl 50 s.arr (0,0) _ (S.out.blk 0 rfl) underlying50 rfl (sv_size _) ?_);refine tp (CK.out w4 (H.out.kept S.out.below)) ?_;rintro e w5 ⟨rfl,hb⟩;exact gh):P:=h
theorem rp(h:P:=by
 clear HG C;go_enter func106,ntmps106;go_wp2_with fail;go_returns;exact dead _ (St.tail S.out) HR.out):P:=h
theorem ro(h:P:=by
 split
 ·simp_all
 ·rename_i o ho;simp only[ho]at hh;split
  ·rename_i hw;simp only[hw,if_true]at hh;rcases hh with⟨v,h1,h2⟩|hh
   ·exact .inl ⟨v,h1,h _ _ h2⟩
   ·exact .inr fun w h1 h2=>(hh w h1 h2).imp (Oper.wp_mono fun a w h3=>⟨h3.1,h _ _ h3.2⟩) id
  ·rename_i hw;simp only[hw]at hh;exact h _ _ hh):P:=h
theorem nd(h:P:=by
 have e:(L.set i (b,cs.setIfInBounds o v,t)).map (·.1)=L.map (·.1):=by
  rw[abm];have:(L.map (·.1))[i]?=some b:=by simp[hi]
  obtain⟨hl,he⟩:=uu.1 this;apply aas;intro j;rw[xj];split
  ·rename_i e;subst e;simp[this]
  ·rfl
 rw[e];exact h.apart):P:=h
theorem af6(h:P:=by
 simp only[hi];rcases hy with⟨hw,hv⟩|⟨hw,rfl⟩
 ·simp only[hw,if_true];exact .inl ⟨v,hv,h⟩
 ·simp only[hw,u9,wy];exact h):P:=h
theorem z120(h:P:=by
 go_wp2_with fail;go_returns;exact⟨by rw[HR.out];rfl,HB1.out⟩):P:=h
theorem V0(h:P:=by
 go_wp2_with fail;refine ue (v:=.tuple #[.agg #[U 0,U 0,eS,U 0],U 0,U 382]) (by simp[results,results20,go_sem,F]) rfl ⟨by rw[HR.out];rfl,?_⟩;exact ahs):P:=h
theorem Zj(h:P:=by
 go_enter func112,ntmps112;go_wp2;all_goals go_returns
 all_goals refine⟨Gf ?_,by go_grown⟩
 all_goals(simp[V.right, *]<;>omega)):P:=h
theorem z123(h:P:=by
 exact⟨h3.os,h3.tape,h3.output,by have:=h3.size;simp at this;omega,fun k hk hne=>by
  rw[h3.block k (by simp;omega) hne,xe _ _ _ hk]⟩):P:=h
theorem Vz(h:P:=by
 rintro e w1 ⟨rfl,hp,ht⟩;have HP1:=tm (fun x=>hp.kept ((uj w1.heap.size w1).alloc (tu _) x));have HT:=tm (fun x=>ht.step ((uj w1.heap.size w1).alloc (tu _) x));clear hp ht;go_wp2_with fail;go_returns;exact⟨_,rfl,rfl,HP1.out _,HT.out _⟩):P:=h
theorem z125(k:Q)(h:Kt Q->P:=by
 intro kk;have hmf:∀(fn:Fn) (first cap:Array Value) (w:World),(Instr.makeFunc fn first cap).run prog w=.ok (.func fn first cap) w:=fun _ _ _ _=>rfl;revert hmf;exact kk.out):P:=h ⟨k⟩
theorem J9(k:Q)(h:Kt Q->P:=by
 intro kk;rw[hps]at hln hlj;simp only[ua,tw,tx]at hln;have HLJ:=tm hlj;have HNE:=tm hne;refine z277 ?_;intro H HE;clear HE;revert H;revert HNE;revert HLJ;revert hln;revert hlj;exact kk.out):P:=h ⟨k⟩
theorem z128(k:Q)(h:Kt Q->P:=by
 intro kk;replace HM:=HM.out;simp only[hn]at HM;replace HM:=tm HM;revert HM;exact kk.out):P:=h ⟨k⟩
theorem Rg(k:Q)(h:Kt Q->P:=by
 intro kk;have c2:w9.cell? ⟨w.heap.size+1,2,none⟩=some (U 0):=Zq;have c3:w9.cell? ⟨w.heap.size+1,3,none⟩=some (U 0):=Zq;have c4:w9.cell? ⟨w.heap.size+1,4,none⟩=some eS:=Zq;have c5:w9.cell? ⟨w.heap.size+1,5,none⟩=some eL:=Zq;revert c5;revert c4;revert c3;revert c2;exact kk.out):P:=h ⟨k⟩
theorem z131(h:P:=by
 go_wp2_with fail;go_roundw
 case rel=>exact⟨k+1,by omega,by go_num,HT3.out,S.out⟩
 case measure=>simp[intOf];omega):P:=h
theorem rj(k:Q)(h:Kt Q->P:=by
 intro kk;refine leaves_cons (f:=53) (args:=#[.pointer (O w.heap.size),.pointer (some ⟨w.heap.size+1,0,none⟩)]) acx (by simp[go_sem]) ?_;exact kk.out):P:=h ⟨k⟩
theorem m9(h:P:=by
 have hb:∀k,k<pb->p.w.heap[k]?=w7.heap[k]?:=fun k hk=>by
  have h1:=S.out.psr.lt;rw[p.h.block k (by have:=S8.out.psr.lt;omega) acw,ht.block k (by simp;omega) acw];exact xe _ _ _ acw
 exact ahb):P:=h
theorem z134(h:P:=by
 go_wp2_with fail;go_returns;exact S.out.done):P:=h
theorem ahk(h:P:=by
 refine⟨(k2.1.trans k1.1).trans k0.1,?_,k2.2.2⟩;have:=k2.2.1;simp only[ua,tw,tx]at this;omega):P:=h
theorem ri(h:P:=by
 exact(St.set 0 (St.set 0 (St.set 0 (St.set 0 S.out rfl) rfl) rfl) rfl).below):P:=h
theorem rh(h:P:=by
 clear HG;go_enter func121,ntmps121;go_wp2_with fail;all_goals go_returns
 all_goals exact⟨by rw[HR.out];rfl,by go_grown⟩):P:=h
theorem li(h:P:=by
 exact PFr.done (PFr.set 0 (PFr.set 0 (PFr.set 0 (PFr.set 0 (PFr.set 0 (PFr.set 0 (PFr.set 0 (S.out) rfl) rfl) rfl) rfl) rfl) rfl) rfl) HM.out (rEx_mk (ExSl.mono (Q:=(w.heap.size+1≤·)) (by(repeat(refine A2 ?_ HQ));exact HA.out) (fun b hb=>Nat.le_of_succ_le hb)))):P:=h
theorem Zp(h:P:=by
 have HT:=tm (fun x=>Turn.of_below (M:=(·=pb)) (hb1.step ((uj w1.heap.size w1).alloc (tu _) x)));clear hb1;exact Zl):P:=h
theorem gh(h:P:=by
 refine z252 ?_;intro S;clear hb;exact z1033):P:=h
theorem z1141(h:P:=by
 obtain rfl:k=l1.length:=acw;have e:l1=l2:=by have:=HT.out;rwa [xu,wq (by rw[<- HN.out];exact tu _)]at this
 obtain rfl:bb=true:=by rw[<- HBB.out];exact vf e
 clear e;exact z63):P:=h
theorem U4(h:P:=by
 unfold Stm.formed;rw[hk];rfl):P:=h
theorem m8(h:P:=by
 exact PFr.done S2.out HM2.out (HA2.out.done acy)):P:=h
theorem lh(h:P:=by
 exact bare _ rfl rfl rfl rfl rfl rfl (yu _) (yu _)):P:=h
theorem Zo(h:P:=by
 obtain⟨c1,c2,rfl,h1,h2⟩:=h;simp only[xx,uz]at hi;subst hi;refine⟨c1,h1,fun j u hu=>?_⟩;rw[yg,xr,ab0 (uu.1 hu).1];exact hu):P:=h
theorem Ob(h:P:=by
 simp only[wt,tw,tx];omega):P:=h
theorem Oa(h:P:=by
 rintro e w1 ⟨rfl,hb⟩;go_wp2_with fail;go_returns;exact⟨rfl,((uj _ _).alloc (tu _) _).step hb⟩):P:=h
theorem rg(h:P:=by
 rw[hrl,show n+(l.toArray.size - n)=l.toArray.size by omega]at this;exact this):P:=h
theorem Hv(k:Q)(h:Kt Q->P:=by
 intro kk;have HCK:Hid (∀W,Below w.heap.size w W->Calls prog 14 #[.agg s.arr] W (Says (U (errF x.formed)) W)):=fun W hb=>
  sqlCheck_any _ x s W (h.kept hb) hwf hl ht
 revert HCK;exact kk.out):P:=h ⟨k⟩
theorem z152(k:Q)(h:Kt Q->P:=by
 intro kk;obtain⟨f1,f2,f3⟩:=S.out.cellF (j:=2) rfl 0 _ rfl;revert f3;revert f2;revert f1;exact kk.out):P:=h ⟨k⟩
theorem ah7(h:P:=by
 clear F;go_wp2_with fail;refine S.out.call (C.out _ _ _ _ _ _ _ (by simp;omega) HX.out (S.out.old H.out) S.out.wrt (S.out.env H.out HE.out)) ?_;clear S;intro w5 S;refine z1076 ?_;intro F;clear HX C;go_wp2_with fail;refine(WFr.alloc S.out).call (when_any b [[41]] _ _ (WFr.alloc S.out).wrt ((WFr.alloc S.out).env H.out HE.out).hi (slAt_parts ((WFr.alloc S.out).blk 0 rfl) rfl rfl acy) acx (by simp;omega)) ?_;intro w6 S;exact z182):P:=h
theorem m6(k:Q)(h:Kt Q->P:=by
 intro kk;obtain⟨b,o,cap,H⟩:=S.out.psr.head;have G:=Al H.blk [.slice (some ⟨b,o,none⟩) (q.length+1) cap,U sz] 0 (fun j=>acx);simp only[cellFacts,uo]at G;have t0:=H.c0;revert t0;revert G;revert H;revert cap;revert o;revert b;exact kk.out):P:=h ⟨k⟩
theorem M4(h:P:=by
 intro W hW hiW;have:=HG.out W _ a cs HM.out hiW hW.wrt (hW.env H.out HE.out) (by rw[hfa];simp only[ua];omega);rw[hfa]at this;exact this):P:=h
theorem z157(h:P:=by
 go_wp2_with fail;go_roundw
 case rel=>exact⟨k+1,by omega,by go_num,by show WFr _ _ _ _ _ _;rw[HST.out,<- uv,<- uv,hyk];exact S.out⟩
 case measure=>simp[intOf];omega):P:=h
theorem re(h:P:=by
 simp only[ug]at this;exact this):P:=h
theorem m0(h:P:=by
 exact PFr.done (PFr.set 1 (PFr.set 1 (PFr.set 1 (PFr.set 1 (PFr.set 1 (PFr.set 1 (PFr.set 1 (S3.out) rfl) rfl) rfl) rfl) rfl) rfl) rfl) HM.out (rEx_mk (ExSl.mono (Q:=(w1.heap.size≤·)) (by(repeat(refine A2 ?_ HQ));exact HA3.out) (fun b hb=>vj hs hb)))):P:=h
theorem af5(h:P:=by
 intro u hu;simp only[uw,vl,xp]at hu;rcases hu with rfl|rfl|rfl|rfl|rfl|rfl|rfl<;>rfl):P:=h
theorem mz(h:P:=by
 clear SZ hvZ htZ Sa;have FG:=fx_ SG.out.facts;refine z1203 ?_;go_meet
 case rel=>exact⟨aZ,rZ,za,zc,HMZ.out,(XFr.set 0 (SG.out) rfl)⟩):P:=h
theorem z1162(h:P:=by
 obtain rfl:k=l1.length:=acw;have e:l1=l2:=by have:=HT.out;rwa [xu,wq (by rw[<- HN.out];exact tu _)]at this
 obtain rfl:bb=true:=HBB.out.2 e;clear e;exact z63):P:=h
theorem rd(h:P:=by
 intro W base args ds gs before hval hW _ _ hZ hL hS _;exact contract H enc W base args ds gs before hval hW hZ hL hS):P:=h
theorem lf(h:P:=by
 replace HM:Hid (y=stopR sz r6 380):=by show _=_;rw[HM.out,if_pos h3]
 have h2:(pl != 3)=true:=by simpa using h3
 clear HOPS HNE HSW;go_wp2_with fail;exact PFr.stop S.out 380 HM.out (fun _ _ h=>⟨rfl,h⟩)):P:=h
theorem q9(h:P:=by
 refine⟨b,o,e2,hlt,k2.same ?_⟩;rw[xe _ _ _ (by simpa using hlt),xk _ _ _ _ (by show b≠w.heap.size+1;omega),xk _ _ _ _ (by show b≠w.heap.size+1;omega)]):P:=h
theorem qz(h:P:=by
 clear hown3 hg;go_wp2_with fail;go_roundw
 case rel=>exact⟨k+1,by omega,by go_num,OwnsBytes.of HO3.out (by rw[dt s k hlt,escB,hp,Dh];rfl),HB3.out⟩
 case measure=>simp[intOf];omega):P:=h
theorem U3(h:P:=by
 rename_i r1 h1;obtain⟨e,h2,rfl⟩:=A6 h;exact(ack h1).then (hin h2) (by simp[itemP];omega)):P:=h
theorem U2(h:P:=by
 clear C C2 C3 C4 C5 C6;exact z1033):P:=h
theorem my(h:P:=by
 exact⟨(show(0:Int)<=0 by decide),(show(0:Int)<=549755813888 by decide),by simp only;omega⟩):P:=h
theorem fy(h:P:=by
 obtain⟨rfl,rfl⟩:=h;exact⟨xh,tu _,hc⟩):P:=h
theorem ky(h:P:=by
 intro u hu;simp only[uw,vl,xp]at hu;rcases hu with rfl<;>rfl):P:=h
theorem agu(h:P:=by
 go_wp2_with fail;go_ret2;exact⟨by rw[HR.out];rfl,HB1.out⟩):P:=h
theorem Zn(h:P:=by
 cases x<;>simp only[Oper.upon]at h3 ⊢
 case panic u=>exact h3):P:=h
theorem fv(h:P:=by
 exact PFr.done (PFr.set 1 (PFr.set 1 (PFr.set 1 (PFr.set 0 (S.out) rfl) rfl) rfl) rfl) HM.out rfl):P:=h
theorem z1175(k:Q)(h:Kt Q->P:=by
 intro kk;obtain⟨v,hv,hj⟩:=oq S.out.f.wrt HNE.out (by clear kk;simp only[ua,tw,tx];omega) HLJ.out;have HJ:=tm hj;revert HJ;revert hj;revert hv;revert v;exact kk.out):P:=h ⟨k⟩
theorem fu(k:Q)(h:Kt Q->P:=by
 intro kk;have x0:=hat 0 _ rfl;have x1:=hat 1 _ rfl;have x2:=hat 2 _ rfl;have x3:=hat 3 _ rfl;have x4:=hat 4 _ rfl;have x5:=hat 5 _ rfl;have x6:=hat 6 _ rfl;revert x6;revert x5;revert x4;revert x3;revert x2;revert x1;revert x0;exact kk.out):P:=h ⟨k⟩
theorem qy(k:Q)(h:Kt Q->P:=by
 intro kk;try(simp only[Res.bind,Res.map]at HM)
 replace HM:=tm HM;revert HM;exact kk.out):P:=h ⟨k⟩
theorem qv(k:Q)(h:Kt Q->P:=by
 intro kk;go_wp2_with fail;refine⟨HTb.out,?_⟩;refine acm rfl rfl ?_;intro wc hbc htc;have Sc:=tm (Sb.out.kept hbc);have HTc:=tm htc;clear hbc htc;refine Bx rfl _ rfl rfl (Q9 _ _ _ _) ?_;refine⟨HTc.out.step ((uj _ _).alloc (tu _) _),?_⟩;clear HTc;refine acm rfl rfl ?_;intro wd hbd htd;have Sd:=tm ((RFr.alloc (cs:=#[.string (Y ab.name),U ab.kind,.bool ab.null]) (t:=37) Sc.out).kept hbd);have HTd:=tm htd;clear hbd htd Sc;revert HTd;revert Sd;revert wd;revert wc;exact kk.out):P:=h ⟨k⟩
theorem qu(h:P:=by
 intro W hW hiW;have:=HG.out W _ a cs HM.out hiW hW.wrt (hW.env H.out HE.out) (HQ.out.went hW.wr) (by rw[hfa];simp only[ua];omega);rw[hfa]at this;exact this):P:=h
theorem z182(h:P:=by
 go_wp2_with fail;go_returns;rw[<- uv,<- uv];exact S.out.done):P:=h
theorem qr(h:P:=by
 go_enter func155,ntmps155;go_wp2_with fail;go_ret2;exact⟨rfl,uj _ _⟩):P:=h
theorem qq(h:P:=by
 refine .inl ⟨u,fun w hw'=>?_,keep a hy u,by rw[<- Act.put_comm a v u h2];exact hn⟩
 have:=hu w hw'
 unfold Oper.mildAt at *
 rwa [aay oj hsj a oi.dst v h1]at this):P:=h
theorem qp(h:P:=by
 intro a l ha hl b hb;rcases uw.1 hb with rfl|hb
 ·exact ha
 ·exact hl b hb):P:=h
theorem qn(h:P:=by
 have ONE:=trivial;exact al):P:=h
theorem mx(h:P:=by
 have ONE:=trivial;exact am):P:=h
theorem qm(h:P:=by
 simp only[yg,abu,u0,show pkE.k=8 from rfl]at k;exact⟨k 0 _ rfl,k 1 _ rfl,k 2 _ rfl,k 3 _ rfl,k 4 _ rfl,k 5 _ rfl,k 6 _ rfl,k 7 _ rfl⟩):P:=h
theorem mw(h:P:=by
 refine⟨hk.below,fun x hx=>?_,?_⟩
 ·rcases uw.1 hx with rfl|hx
  ·exact⟨vj h.below.size hge,hb⟩
  ·exact hk.own x hx
 ·exact ll):P:=h
theorem mu(h:P:=by
 exact PFr.done (PFr.set 0 (PFr.set 0 (PFr.set 0 (PFr.set 0 (PFr.set 0 (PFr.set 0 (PFr.set 0 (S.out) rfl) rfl) rfl) rfl) rfl) rfl) rfl) HM.out (rEx_mk (ExSl.nil _ _))):P:=h
theorem qk(h:P:=by
 show St _ _ _;have:=St.alloc (St.alloc (St.start w) (cs:=SV.arr {}) (t:=50)) (cs:=#[U 0,U 0]) (t:=26);simpa only[ug]using this):P:=h
theorem qj(h:P:=by
 refine⟨by kernel_rfl,?_⟩;go_wp2_with fail;refine ue (v:=.bool true) (by simp[results,results137,go_sem]) rfl ?_;exact FIN.out _ T.out):P:=h
theorem kw(h:P:=by
 refine Ba ?_;intro w2 _ hb2;have HB3:=tm (HB2.out.step hb2);clear hb2;go_wp2_with fail;go_ret2;exact⟨by rw[HR.out];rfl,HB3.out⟩):P:=h
theorem ku(h:P:=by
 clear heq;go_enter func60,ntmps60;exact z63):P:=h
theorem mr(h:P:=by
 clear HBB;go_enter func61,ntmps61;exact z63):P:=h
theorem U1(h:P:=by
 exact PFr.done (PFr.set 1 (PFr.set 1 (PFr.set 1 (S.out) rfl) rfl) rfl) HM.out rfl):P:=h
theorem J8(h:P:=by
 exact⟨rfl,(uj _ _).alloc (tu _) _⟩):P:=h
theorem Zm(h:P:=by
 simp only[tw];omega):P:=h
theorem qi(h:P:=by
 have hl:=ExsIn.len h2;have hlt:=k2.lt (by intro e;rw[e]at hl;simp at hl;omega);have:=hq b hlt k;exact⟨b,o,e2,this.1,k2.same this.2⟩):P:=h
theorem z200(k:Q)(h:Kt Q->P:=by
 intro kk;have F:=S.out.f.facts;refine z25 ?_;clear F;intro F;revert F;exact kk.out):P:=h ⟨k⟩
theorem qh(k:Q)(h:Kt Q->P:=by
 intro kk;obtain⟨a,hx⟩:∃x,l[k]?=some x:=⟨l[k],by clear kk;simp[hlt]⟩;revert hx;revert a;exact kk.out):P:=h ⟨k⟩
theorem z1203(k:Q)(h:Kt Q->P:=by
 intro kk;go_wp2_with(with_reducible (refine hold ?_));exact kk.out):P:=h ⟨k⟩
theorem z204(h:P:=by
 go_wp2_with fail;go_returns;rw[<- uv];exact S.out.done):P:=h
theorem qc(h:P:=by
 exact AllTok.cons (ft ac0) (AllTok.cons (nt h.1) AllTok.nil)):P:=h
theorem kq(h:P:=by
 rw[v8]at hb;obtain⟨lc,ld,rfl,hc,_⟩:=Ae hb;obtain⟨u,q,rfl,hu,_⟩:=Ab hc;exact hS u _ hu):P:=h
theorem qa(h:P:=by
 obtain⟨op,t,n,v,args⟩:=e;obtain⟨v0,rfl,hsl⟩:=Ds h;obtain⟨ad,ac,rfl⟩:=(Cv hsl).slice;exact⟨ad,ac,rfl⟩):P:=h
theorem kp(h:P:=by
 simp only[ub,ui,um,ub]at h;rw[nq]at h;exact Fu h):P:=h
theorem fq(h:P:=by
 have hf:=E8 hx;have k:=Ma hst (fun t ht=>(hf.1 t ht).num);exact⟨k.1,by have:=k.2.1;omega,by have:=k.2.2;omega⟩):P:=h
theorem Zl(h:P:=by
 go_wp2_with fail;refine tp (C2.out _) ?_;rintro e w2 ⟨rfl,ht⟩;exact⟨rfl,rfl,(HT.out _).trans ht (fun _ _ h=>h)⟩):P:=h
theorem mq(h:P:=by
 exact(St.turned (L:=[]) ⟨S6.out.below,by simp,by simp⟩ hT7 (fun i hi=>by rcases hi with hi|hi<;>omega) acx).below):P:=h
theorem Zk(h:P:=by
 simp[stopR]at h):P:=h
theorem ko(h:P:=by
 obtain⟨j,hj⟩:=yi.1 hx;obtain⟨b,cs,t⟩:=x;exact(uh.1 (h.blk j hj)).1):P:=h
theorem ah6(h:P:=by
 rcases wu hx with hx|rfl
 ·exact hq.2.1 x hx
 ·exact hq.2.1 (b,cs,t) (uq hi)):P:=h
theorem p9(h:P:=by
 rw[hx]at h1;obtain⟨rfl,ht⟩:=h1;exact⟨rfl,rfl,ht⟩):P:=h
theorem p8(h:P:=by
 intro w8 hn _ _;exfalso;have:=C7 (l:=r6) (by rw[HSW.out];exact hne);rw[HSW.out,hn]at this
 cases this):P:=h
theorem fp(h:P:=by
 have h1:=hall e he hb;rw[heq,getD_both hun]at h1
 cases h1):P:=h
theorem mp(h:P:=by
 exact(St.set 1 (St.set 1 (St.set 1 S2.out rfl) rfl) rfl).below):P:=h
theorem p7(h:P:=by
 rintro acs hl ⟨c,c2,rfl,k,k2⟩;exact⟨c,c2,rfl,hl e acx _ k,ihl _ (fun d hd=>hl d (by simp[hd])) k2⟩):P:=h
theorem mo(h:P:=by
 simp only[Stm.zero,Stm.mk.injEq]at hu;obtain⟨_,rfl,_,rfl,rfl,rfl,rfl,rfl,rfl,rfl,rfl,rfl⟩:=hu;exact mc):P:=h
theorem p6(h:P:=by
 simp only[ug,aar,ub,um]at this;exact this):P:=h
theorem p5(h:P:=by
 intro e;have:=Fj (n:=n) acw acw;rw[e,Bv ac0]at this;simp at this):P:=h
theorem p4(h:P:=by
 exact PFr.done (PFr.set 1 (PFr.set 1 (PFr.set 1 (PFr.set 1 (PFr.set 1 (S.out) rfl) rfl) rfl) rfl) rfl) HM.out rfl):P:=h
theorem p3(h:P:=by
 rename_i hw;simp only[hw]at hh;exact h _ _ _ h1 h2 hh):P:=h
theorem Hu(k:Q)(h:Kt Q->P:=by
 intro kk;have kd:W2.cell? ⟨w.heap.size,0,none⟩=some (U s.k):=Oe;rw[hks]at kd;revert kd;exact kk.out):P:=h ⟨k⟩
theorem Zh(h:P:=by
 try simp only[ug]at this
 exact this):P:=h
theorem pz(h:P:=by
 rw[HSW.out,hn]at this;exact xt this):P:=h
theorem py(h:P:=by
 clear x0 S Sc HIN;go_wp2_with fail;refine S2.out.drop.call (C.out _ S2.out.drop HI.out) ?_;intro w3 S;clear S2 HI C;exact z157):P:=h
theorem px(h:P:=by
 intro u hu;simp only[Col.cells,uw,vl,xp]at hu;rcases hu with rfl|rfl|rfl<;>rfl):P:=h
theorem pw(h:P:=by
 rename_i hx
 cases h;exact ih1 _ _ _ hx):P:=h
theorem ahb(h:P:=by
 have:=HOPS.out p.w (vj (vj acx ht.size) p.h.size) hb;exact⟨this.1,this.2.1⟩):P:=h
theorem Zg(h:P:=by
 refine⟨h.1,keep _ (keepD d) _,?_⟩;rw[<- Act.put_comm _ v undef h2,<- Act.put_defers];exact h.2):P:=h
theorem pu(h:P:=by
 rename_i hw;simp only[hw]at h;exact⟨keep a hy _,by rw[<- Act.put_comm a v undef h2];exact h⟩):P:=h
theorem pt(h:P:=by
 have ha:=El hl;have:=Fx (r:=r) ha hh;rw[Bs ha];exact this):P:=h
theorem pp(h:P:=by
 split
 ·rename_i h1;simp only[ge_iff_le,tr,uk]at h1;omega
 ·exact hr):P:=h
theorem pn(h:P:=by
 simp only[ub,ui,um]at k;rw[e]at k;exact k):P:=h
theorem pm(h:P:=by
 rcases cs with _|⟨a,_|⟨b,_|⟨c,_|⟨d,r⟩⟩⟩⟩<;>simp at hlen
 exact⟨a,b,c,rfl⟩):P:=h
theorem Ht(h:P:=by
 exact ad9 t (by have:=Array.mem_of_getElem? ht;simp at this;rcases this with rfl|rfl<;>simp)):P:=h
theorem pk(h:P:=by
 go_returns;exact⟨rfl,by go_grown⟩):P:=h
theorem Zd(h:P:=by
 exact Bal.cons (by unfold NP;decide) (kw (acn h.1))):P:=h
theorem ahj(h:P:=by
 simp only[ua,tw];omega):P:=h
theorem ahi(h:P:=by
 simp only[h3,Res.ok.injEq]at h;rw[<- h.2];omega):P:=h
theorem ahh(h:P:=by
 simp only[World.cell?,h,xr];simpa using hu):P:=h
theorem ah5(h:P:=by
 intro w3 S;go_wp2_with fail;go_returns;rw[hP.out];have:=S.out.done;simpa[whenP]using this):P:=h
theorem z246(h:P:=by
 go_wp2_with fail;go_returns;exact⟨rfl,HB3.out⟩):P:=h
theorem ah4(h:P:=by
 have F:=S2.out.tail.facts;refine z25 ?_;clear F;intro F;clear x0 x1 x2 S Sc HIN;exact z56):P:=h
theorem agt(h:P:=by
 rename_i hx;rw[hx]at h4
 cases h4):P:=h
theorem ahg(h:P:=by
 exact AllTok.cons (ft ac0) AllTok.nil):P:=h
theorem z252(k:Q)(h:Kt Q->P:=by
 intro kk;replace S:=tm (S.out.kept hb);revert S;exact kk.out):P:=h ⟨k⟩
theorem ah3(h:P:=by
 have k2:=A5 hn;simp only[Res.bind];exact Dz _ _ _ _ _ acw acw):P:=h
theorem ahf(h:P:=by
 have e2:w.heap.size+1=w1.heap.size:=e';omega):P:=h
theorem ah2(h:P:=by
 obtain⟨c,rfl,h⟩:=h;rcases uw.1 hu with rfl|hu
 ·rfl
 ·exact h.ones u hu):P:=h
theorem ah1(h:P:=by
 split at h
 ·rename_i t r1 h1
  cases h;obtain⟨rfl,_⟩:=Ez h1;rfl
 ·exact Zk):P:=h
theorem ah0(h:P:=by
 exact PFr.done (PFr.set 1 (PFr.set 1 (PFr.set 0 (S.out) rfl) rfl) rfl) HM.out ⟨_,rfl,rfl⟩):P:=h
theorem ahz(h:P:=by
 conv=>rhs;rw[<- aae k l,abq,ua]
 omega):P:=h
theorem ahe(h:P:=by
 rename_i r1 h1
 cases h;have:=A5 h1;omega):P:=h
theorem ahd(h:P:=by
 rw[Array.setIfInBounds_comm _ _ hji];exact h3.2):P:=h
theorem ahy(h:P:=by
 rename_i r1 h3
 cases h2;exact(ac3 h1).then (ack h3) (by simp[srtP,whenP])):P:=h
theorem ahx(h:P:=by
 rename_i r1 h3
 cases h2;have k2:=A4 h3;exact⟨k2.1.trans k1,by omega,trivial⟩):P:=h
theorem ahw(h:P:=by
 rintro e W2 ⟨hv,h|h⟩
 ·exact⟨hv,.inl ⟨⟨_,h⟩,h.loop⟩⟩
 ·exact h.elim):P:=h
theorem ags(h:P:=by
 rw[laid_same];exact ki os _):P:=h
theorem ahv(h:P:=by
 exact(hh w h1 h2).imp (Oper.wp_calm fun a' w' h3=>h _ _ _ (uj _ _) h3.1 h3.2) id):P:=h
theorem ahu(h:P:=by
 have F:=fx_ S.out.facts;exact z71):P:=h
theorem z267(h:P:=by
 obtain⟨_,o,ho,_⟩:=mem_ready.1 hr;have:=(uh.1 ho).1;omega):P:=h
theorem aht(h:P:=by
 go_enter func55,ntmps55;go_wp2_with fail;exact⟨rfl,rfl,Turn.refl _ _⟩):P:=h
theorem ahc(h:P:=by
 rw[hx];exact⟨v,rfl,HV.out,HP.out,HT.out⟩):P:=h
theorem ahs(h:P:=by
 exact(St.alloc (St.set 0 (St.set 0 (St.set 0 (St.set 0 S.out rfl) rfl) rfl) rfl)).below):P:=h
theorem ahr(h:P:=by
 exact⟨p,l++[signP op]++exPr b (levP op+1),by rw[Gy h3 h13,h];simp,h2⟩):P:=h
theorem adq(h:P:=by
 show printS x=_;unfold printS;rw[hn,hps];rfl):P:=h
theorem z275(k:Q)(h:Kt Q->P:=by
 intro kk;have xtb:W2.cell? ⟨w.heap.size,1,none⟩=some (.string (Y s.tb)):=Oe;revert xtb;exact kk.out):P:=h ⟨k⟩
theorem z276(k:Q)(h:Kt Q->P:=by
 intro kk;have xtb:v1.cell? ⟨w.heap.size,1,none⟩=some (.string (Y s.tb)):=Oe;revert xtb;exact kk.out):P:=h ⟨k⟩
theorem z277(k:Q)(h:Kt Q->P:=by
 intro kk;have H:=tm h;have HE:=tm he;revert HE;revert H;exact kk.out):P:=h ⟨k⟩
theorem z278(k:Q)(h:Kt Q->P:=by
 intro kk;replace S:=tm (S.out.went Sp.out.tail rfl);revert S;exact kk.out):P:=h ⟨k⟩
theorem z279(k:Q)(h:Kt Q->P:=by
 intro kk;simp only[vo,vz];exact kk.out):P:=h ⟨k⟩
theorem ahp(h:P:=by
 generalize x.where_=ex at *;obtain⟨op,t,n,v,args⟩:=ex;exact whereW_any _ _ W (Bc h5) hf hw hE hl):P:=h
theorem af4(h:P:=by
 unfold stmP;rw[hk,htb];rfl):P:=h
theorem z10k2(k:Q)(h:Kt Q->P:=by
 intro kk;go_wp2_with fail;refine PFr.wants (PFr.laid (S4.out)) [[110,117,108,108]] (blk_at acx) rfl acy rfl acy acy (fun p q h=>by rw[HM.out,h];try rfl) (fun _ _ h=>⟨rfl,h⟩) ?_;intro r w5 h5 ht S5;replace HM:=HM.out;rw[h5]at HM;try(simp only[Res.map]at HM)
 replace HM:=tm HM;have HA5:=tm ((A9 HA4.out).turned ht (fun b hb e=>by have h1:=S.out.lt;have h2:b=pb:=e;have h3:=hb.1;omega));clear h5 ht;have hs:=HS.out;have HQ:Hid (∀c,(w.heap.size<c/\c<w1.heap.size)->c≠w.heap.size):=fun c h e=>by omega
 have HQ1:Hid (∀c,(w.heap.size<c/\c<w1.heap.size)->c≠w1.heap.size):=fun c h e=>by omega
 clear hs;have F:=S5.out.facts;refine z25 ?_;clear F;intro F;have HG5:=tm F.1;go_wp2_with(first|(with_reducible (refine wpList_id ?_);refine wpList_bs1 rfl _ rfl _ _ _ _ _ _ _ rfl ?_)|(with_reducible (refine wpList_id ?_);refine mn rfl ?_)|(with_reducible (refine hold ?_)));have Sa:=tm (PFr.alloc S5.out (cs:=#[U op,.string (Y t),.string (Y nm),U v.k,U v.n,.string v.s,.slice ad args.length ac]) (t:=44));have HAa:=tm (A9 (o:=.cells #[U op,.string (Y t),.string (Y nm),U v.k,U v.n,.string v.s,.slice ad args.length ac] 44) HA5.out);refine ur rfl 44 (.tmp 5) (.tmp 64) rfl w1.heap.size _ rfl rfl 44 _ (Sa.out.blk 1 rfl) (Fe _ _ _ _ _ _ _) rfl (by simp[Value.oneCell']) ?_;refine Hh (fun W=>PFr pb sz w W _ _/\ExSl _ W _ _) ⟨PFr.row 1 _ Sa.out rfl,Ei HAa.out HQ1.out⟩ ?_;rintro w6 ⟨S,HA1⟩;replace S:=tm S;have HA6:=tm HA1;clear HA1 F S5 HA5 Sa HAa;simp only[ub,ui]at S;refine z1076 ?_;intro F;have HG6:=tm (abl HG5.out F.1);rename_i ka kb;revert HG6;revert F;revert S;revert HA6;revert w6;revert HG5;revert HQ1;revert HQ;revert HM;revert w5;revert r;revert kb;revert ka;exact kk.out):P:=h ⟨k⟩
theorem z1002k6(k:Q)(h:Kt Q->P:=by
 intro kk;go_enter func13,ntmps13;go_upto_region 2 with(first|(refine ux rfl 50 (.tmp 1) rfl w.heap.size rfl 50 s.arr (0,0) _ (World.alloc_heap_new w _) underlying50 rfl (sv_size _) ?_));refine tp (HCK.out _ ((uj _ _).alloc (tu _) _)) ?_;rintro e w1 ⟨rfl,hb1⟩;have h1:w1.heap[w.heap.size]?=some (.cells s.arr 50 (0,0)):=(hb1.block _ (by rw[ug];omega)).trans (World.alloc_heap_new w _);have hB:Below w.heap.size w w1:=((uj _ _).alloc (tu _) _).trans ⟨hb1.os,hb1.tape,hb1.output,hb1.size,fun k hk=>hb1.block k (by rw[ug];omega)⟩;have HX:=tm (PrSt.start (s:=s) he (uj _ _) h1 hB);rw[show errF x.formed=0 by rw[hn];rfl];clear hb1 h1 hB;rename_i ka kb kc kd ke kf;revert HX;revert w1;revert kf;revert ke;revert kd;revert kc;revert kb;revert ka;exact kk.out):P:=h ⟨k⟩
theorem z1005k2(k:Q)(h:Kt Q->P:=by
 intro kk;intro r2 w2 hn ht S2;have hlen:=tm (A5 hn);have HM2:Hid (y=(read r2).bind fun a l1=>moreR read l1.length (acc++[a]) l1):=by
  clear kk;show _=_;rw[HM.out];obtain⟨f,hf⟩:∃f,lr.length=f+1:=⟨lr.length - 1,by have:=A5 hn;omega⟩;rw[hf,Ci,hn]
  cases hrd:read r2 with
  | err p q=>simp only[hrd];rfl
  | ok a l1=>
   have h1:=hr _ _ _ hrd;have h2:=A5 hn;simp only[hrd,Res.bind];exact Hp hr _ _ _ _ acw acw
 have HA2:=tm (((HA.out.kept ((uj _ _).alloc (tu _) _))).turned ht (fun b hb e=>by have h1:=S2.out.lt;have h2:b=pb:=e;omega));clear hn ht;go_wp2_with fail;refine PFr.post S2.out (HR.out r2 w2 S2.out.turn S2.out.psr) (fun p q h=>by rw[HM2.out,h];rfl) (fun _ _ h=>⟨rfl,h⟩) ?_;intro a3 r3 v3 w3 h3 hv ht S3;have HL3:=tm (hr _ _ _ h3);have HM3:Hid (y=moreR read r3.length (acc++[a3]) r3):=by show _=_;rw[HM2.out,h3];rfl
 rename_i ka kb;revert HM3;revert HL3;revert S3;revert ht;revert hv;revert h3;revert w3;revert v3;revert r3;revert a3;revert HA2;revert HM2;revert hlen;revert S2;revert w2;revert r2;revert kb;revert ka;exact kk.out):P:=h ⟨k⟩
theorem z1008k4(k:Q)(h:Kt Q->P:=by
 intro kk;refine z1105 ?_;intro F S3 hw;have HP:Hid (Psr (((w1.setCell ⟨w.heap.size+1,0,none⟩ (U 0)).setCell ⟨w.heap.size+1,1,none⟩ (U 0)).alloc (.cells #[.slice a l.length c,U (s.length:Int)] 114)) w1.heap.size (s.length:Int) l):=by
  clear kk;refine bm (HE.out.kept S3.out.below) (vj HE.out.hi acw) HX.out (S3.out.blk 0 rfl) ?_;obtain⟨a',cap,e,hc,h⟩:=HV.out;refine⟨a',cap,e,hc,fun hn=>?_⟩;obtain⟨b,o,e2,k,k2⟩:=h hn;have hlt:=k2.lt (G4 hn);have k3:w.heap.size+2<=b:=by simpa only[ug,zx,Nat.reduceAdd]using k
  exact q9
 go_wp2_with fail;rename_i ka kb kc kd;revert HP;revert hw;revert S3;revert F;revert kd;revert kc;revert kb;revert ka;exact kk.out):P:=h ⟨k⟩
theorem z1075k4(k:Q)(h:Kt Q->P:=by
 intro kk;go_wp2_with fail;refine tp HJ.out ?_;rintro e w4 ⟨rfl,hb4⟩;have HB:Hid (Below w.heap.size w w4):=S.out.below.trans ⟨hb4.os,hb4.tape,hb4.output,hb4.size,fun k hk=>hb4.block k (by have:=S.out.f.size;have:=S.out.lt;omega)⟩;clear hb4;rename_i ka kb kc kd;revert HB;revert w4;revert kd;revert kc;revert kb;revert ka;exact kk.out):P:=h ⟨k⟩
theorem z118k2(k:Q)(h:Kt Q->P:=by
 intro kk;go_wp2_with fail;refine tp (ck36 bo (w.heap.size+1) w.heap.size (true) (isName x.table) (s) s _ S.out.at (fun W _=>by rw[show s.tb=x.table from HS.out.tb];exact Ah x.table W)) ?_;rename_i ka kb;revert kb;revert ka;exact kk.out):P:=h ⟨k⟩
theorem z13k4(k:Q)(h:Kt Q->P:=by
 intro kk;go_wp2_with fail;refine PFr.post S0.out (HR.out l w (Turn.refl _ _) S0.out.psr) (fun p q h=>by rw[HM0.out,h];rfl) (fun _ _ h=>⟨rfl,h⟩) ?_;intro a1 r1 v1 w1 h1 hv ht S1;have HL1:=tm (hr _ _ _ h1);have HM1:Hid (y=moreR read r1.length [a1] r1):=by show _=_;rw[HM0.out,h1];rfl
 rename_i ka kb kc kd;revert HM1;revert HL1;revert S1;revert ht;revert hv;revert h1;revert w1;revert v1;revert r1;revert a1;revert kd;revert kc;revert kb;revert ka;exact kk.out):P:=h ⟨k⟩
theorem z179k2(k:Q)(h:Kt Q->P:=by
 intro kk;go_wp2_with fail;refine XFr.post S.out (name_any pb sz _ _ S.out.psr) (fun p q h=>by rw[HM.out,h];try rfl) (fun _ _ h=>⟨rfl,h⟩) ?_;rename_i ka kb;revert kb;revert ka;exact kk.out):P:=h ⟨k⟩
theorem z179k4(k:Q)(h:Kt Q->P:=by
 intro kk;go_wp2_with fail;refine XFr.post S.out (name_any pb sz _ _ S.out.psr) (fun p q h=>by rw[HM.out,h];try rfl) (fun _ _ h=>⟨rfl,h⟩) ?_;rename_i ka kb kc kd;revert kd;revert kc;revert kb;revert ka;exact kk.out):P:=h ⟨k⟩
theorem z250k4(k:Q)(h:Kt Q->P:=by
 intro kk;have xwo:W2.cell? ⟨w.heap.size,14,none⟩=some (U s.wo):=Oe;have xwt:W2.cell? ⟨w.heap.size,15,none⟩=some (.string (Y s.wt)):=Oe;have xwn:W2.cell? ⟨w.heap.size,16,none⟩=some (.string (Y s.wn)):=Oe;have xw:W2.cell? ⟨w.heap.size,17,none⟩=some (U s.wv.k):=Oe;have xw4:W2.cell? ⟨w.heap.size,18,none⟩=some (U s.wv.n):=Oe;have xw5:W2.cell? ⟨w.heap.size,19,none⟩=some (.string s.wv.s):=Oe;have xwa:W2.cell? ⟨w.heap.size,20,none⟩=some (sl s.wa):=Oe;go_wp2_with fail;rename_i ka kb kc kd;revert xwa;revert xw5;revert xw4;revert xw;revert xwn;revert xwt;revert xwo;revert kd;revert kc;revert kb;revert ka;exact kk.out):P:=h ⟨k⟩
theorem z57k4(k:Q)(h:Kt Q->P:=by
 intro kk;go_upto_region 4 with fail;refine St.gen (St.alloc (St.alloc (St.start _))) ?_;intro w1 S;refine z101 ?_;clear S;intro S;rename_i ka kb kc kd;revert S;revert w1;revert kd;revert kc;revert kb;revert ka;exact kk.out):P:=h ⟨k⟩
theorem z57k6(k:Q)(h:Kt Q->P:=by
 intro kk;go_upto_region 4 with fail;refine St.gen (St.alloc (St.alloc (St.start _))) ?_;intro w1 S;refine z101 ?_;clear S;intro S;rename_i ka kb kc kd ke kf;revert S;revert w1;revert kf;revert ke;revert kd;revert kc;revert kb;revert ka;exact kk.out):P:=h ⟨k⟩
theorem z74k2(k:Q)(h:Kt Q->P:=by
 intro kk;go_upto_region 6 with(refine ur rfl 26 (.tmp 9) (.tmp 33) rfl w5.heap.size #[U 0,U 0] rfl rfl 26 #[U 0,U 0] ((St.alloc S.out (cs:=#[U 0,U 0]) (t:=26)).blk 0 rfl) (Cc _ _) rfl (Gl _ _) ?_);refine Cf (St.row 0 #[U 0,U 0] (St.alloc (St.start w5) (cs:=#[U 0,U 0]) (t:=26)) rfl).below (St.row 0 #[U 0,U 0] (St.alloc S.out (cs:=#[U 0,U 0]) (t:=26)) rfl) ?_;intro w6 hb S;replace S:Hid (St w w6 [(w5.heap.size,#[U 0,U 0],26),(w.heap.size,s.arr,50)]):=S.out;rename_i ka kb;revert S;revert hb;revert w6;revert kb;revert ka;exact kk.out):P:=h ⟨k⟩
end Go
