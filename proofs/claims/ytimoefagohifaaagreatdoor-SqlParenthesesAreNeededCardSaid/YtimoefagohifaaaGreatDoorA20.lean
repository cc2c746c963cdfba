/- Laws that the last part needs. No condition. -/
import Derived.Test.YtimoefagohifaaaGreatDoorCards
import Derived.Test.YtimoefagohifaaaGreatDoorTie
import Derived.Deep.DeepHandedRow
import Derived.Deep.DeepWitnessRowRef
import Derived.Lib.SmallJoins
import Derived.Lay
import Derived.LaidSub
import Derived.LaidLaws
import Derived.FnData
import Derived.SevenTiedAt
import Derived.ChangeMaps
import Derived.ChangeAnyMap
import Derived.MapKept
import Derived.Test.YtimoefagohifaaaGreatDoorA04
set_option maxRecDepth 100000
namespace Go.Proofs.YtimoefagohifaaaGreatDoor
open Go.ChangeShapes Go.WideShapes Go.ChangeAt Go.RowKit Go.Joins Go.Proofs.Tryz
theorem own:ownKnob prog.godebug=none:=acz
theorem jj:laidOutB prog=true:=acz
theorem Np {l:List (String×DataW Unit)} {W:World} (h:laidMetH prog l W) (name:String) (d:DataW Unit) (hf:l.filter (fun x=>x.1==name)=[(name,d)]) (hh:d.handleName?=none):laidMet prog [(name,d)] W:=by
 have h1:=laidMetH.filter (fun x=>x.1==name) h;rw[hf]at h1;unfold laidMetH at h1;simp only[List.filter_cons,hh,abw,u9,wy,List.filter_nil]at h1;exact h1
theorem n9 {l:List (String×DataW Unit)} {W:World} (h:laidMetH prog l W) (hf:l.filter (fun x=>x.1== "internal/strconv.uint64pow10")=[("internal/strconv.uint64pow10",Lib.tabData .u64 Lib.pow10Tab)]):
 Lib.TabIs prog W "internal/strconv.uint64pow10" .u64 Lib.pow10Tab:=
 Lib.tabIs_of_head (g:=6) (t:=(prog.globals[6]?.map (·.type)).getD 0) (e:=match prog.underlying ((prog.globals[6]?.map (·.type)).getD 0)with|some (.array _ e)=>e|_=>0) (n:=20) acz acz acz acz acz acz (Np h _ _ hf acz)
theorem bq {l:List (String×DataW Unit)} {W:World} (h:laidMetH prog l W) (hf:l.filter (fun x=>x.1== "unicode.properties")=[("unicode.properties",Lib.tabData .u8 Lib.propertiesTab)]):
 Lib.TabIs prog W "unicode.properties" .u8 Lib.propertiesTab:=
 Lib.tabIs_of_head (g:=1) (t:=(prog.globals[1]?.map (·.type)).getD 0) (e:=5) (n:=256) acz acz acz acz acz acz (Np h _ _ hf acz)
theorem Qv {l:List (String×DataW Unit)} {W:World} (h:laidMetH prog l W) (name ty:String) (d:DataW Unit) (g t:Nat) (m:TypeDesc) (hg:prog.globalNamed name=some g) (hty:(prog.globals[g]?).map (·.type)=some t) (hu:prog.underlying t=some m) (hm:∃a,m=.interface a) (hf:l.filter (fun x=>x.1==name)=[(name,.iface ty d)]) (hh:(DataW.iface ty d).handleName?=none):∃t p,W.cell? ⟨g,0,none⟩=some (.iface t p):=by
 obtain⟨ps,⟨g',t',cs,fuel,p,q,hg',ht',hvar,hd,_,_⟩,_⟩:=Np h _ _ hf hh;obtain rfl:=xt (hg.symm.trans hg');obtain rfl:=xt (hty.symm.trans ht');obtain⟨a,rfl⟩:=hm;obtain⟨_,u,v,hcs,_,_⟩:=iface_of_trod hu hd;have:=World.var?_cell hg hvar 0;have hc:cs=#[.iface u v]:=by cases cs;simp_all
 rw[hc]at this;exact⟨u,v,this⟩
theorem no {cs:List Value} (h:cs.length=2):∃c0 c1,cs=[c0,c1]:=by
 rcases cs with _|⟨a,_|⟨b,_|⟨c,r⟩⟩⟩<;>simp at h
 exact⟨a,b,rfl⟩
section
variable {H:Type} {enc:TypeId×Value->H} {w:World} {base:Nat} {sp:Nat->Bool} {held:Bool} {fuel:Nat} {cs:List Value} {p:List MemPlace}
theorem jd {a b:Int} (h:DataW.trod enc prog w base sp held fuel 215 cs=some (.agg [.lit (.int .i64 a),.lit (.int .i64 b)],p)):cs=[U a,U b]:=by
 obtain⟨y,y,m,hx,hl,h0,h1⟩:=trod_struct2 underlying215 h;have hc:prog.cellsOf 215=2:=acz;rw[hc]at hl;obtain⟨c0,c1,rfl⟩:∃c0 c1,cs=[c0,c1]:=no hl;obtain⟨s',e,e1,_⟩:=DataW.trod_int underlying3 h0;obtain⟨n',e2,e3,_⟩:=DataW.trod_int underlying3 h1;have k:prog.cellsOf 3=1:=acz;simp only[k,vz,vo,zn,List.take_zero,aa7,uo]at e e2;subst e e1 e2 e3;simp only[aaf,DataW.agg.injEq,aa7,DataW.lit.injEq,Lit.int.injEq,true_and,uo]at hx;obtain⟨⟨rfl,rfl⟩,_⟩:=hx;rfl
theorem Vk {v:Value} {k:Lit} (h:keyOf prog 9 v=some k):∃l,k=.string l/\v=.string (Y l):=by
 unfold keyOf mapKey at h;simp only[underlying9]at h
 cases v with
 | string s=>
  simp only at h;split at h
  ·cases h;exact⟨_,rfl,rfl⟩
  ·cases h
 | _=>simp at h
def opData:List (Lit×DataW H):=[(.string [42],.agg [.lit (.int .i64 5),.lit (.int .i64 5)]),(.string [43],.agg [.lit (.int .i64 3),.lit (.int .i64 4)]),(.string [45],.agg [.lit (.int .i64 4),.lit (.int .i64 4)]),(.string [60],.agg [.lit (.int .i64 8),.lit (.int .i64 3)]),(.string [60,61],.agg [.lit (.int .i64 9),.lit (.int .i64 3)]),(.string [60,62],.agg [.lit (.int .i64 7),.lit (.int .i64 3)]),(.string [61],.agg [.lit (.int .i64 6),.lit (.int .i64 3)]),(.string [62],.agg [.lit (.int .i64 10),.lit (.int .i64 3)]),(.string [62,61],.agg [.lit (.int .i64 11),.lit (.int .i64 3)]),(.string [97,110,100],.agg [.lit (.int .i64 12),.lit (.int .i64 1)]),(.string [111,114],.agg [.lit (.int .i64 13),.lit (.int .i64 0)])]
theorem Sw (q:Lit×DataW H) (h:q∈(opData:List (Lit×DataW H))):∃y∈opTab,q=(.string y.1,.agg [.lit (.int .i64 y.2.1),.lit (.int .i64 y.2.2)]):=by
 simp only[opData,uw,vl,xp]at h;rcases h with rfl|rfl|rfl|rfl|rfl|rfl|rfl|rfl|rfl|rfl|rfl
 ·exact⟨([42],5,5),by decide,rfl⟩
 ·exact⟨([43],3,4),by decide,rfl⟩
 ·exact⟨([45],4,4),by decide,rfl⟩
 ·exact⟨([60],8,3),by decide,rfl⟩
 ·exact⟨([60,61],9,3),by decide,rfl⟩
 ·exact⟨([60,62],7,3),by decide,rfl⟩
 ·exact⟨([61],6,3),by decide,rfl⟩
 ·exact⟨([62],10,3),by decide,rfl⟩
 ·exact⟨([62,61],11,3),by decide,rfl⟩
 ·exact⟨([97,110,100],12,1),by decide,rfl⟩
 ·exact⟨([111,114],13,0),by decide,rfl⟩
theorem Sx (y:Bytes×Int×Int) (h:y∈opTab):((.string y.1,.agg [.lit (.int .i64 y.2.1),.lit (.int .i64 y.2.2)]):Lit×DataW H)∈(opData:List (Lit×DataW H)):=by
 simp only[opTab,uw,vl,xp]at h;rcases h with rfl|rfl|rfl|rfl|rfl|rfl|rfl|rfl|rfl|rfl|rfl<;>simp[opData]
theorem oe (h:DataW.trod enc prog w base sp held fuel 213 cs=some (.map opData,p)):∃b es clock,cs=[.map (some b)]/\w.heap[b]?=some (.map es clock)/\OpEntries es clock:=by
 have ht:prog.underlying 213=some (.map 9 215):=underlying213;obtain⟨_,hx⟩|⟨b,es,clock,_,rfl,hb,hs,_,_⟩:=open_anymap ht h
 ·cases hx
 ·cases fuel with
  | zero=>simp[DataW.trod]at h
  | succ n=>
   rw[DataW.trod_step]at h;unfold DataW.trodStep at h;simp only[ht,hb]at h;split at h
   ·rename_i hc;simp only[ab9]at h;obtain⟨entries,he,h3⟩:=h;split at h3
    ·rename_i hris;have hs2:(entries.map (·.1)).foldr DataW.insert []=opData:=by
      have:=congrArg Prod.fst (xt h3);simpa using this
     have hperm:=sorted_perm (entries.map (·.1));rw[hs2]at hperm;have hlen:=mapM_len he;have hat:∀(i:Nat) (x:MapEntry),es.toList[i]?=some x->∃y,entries[i]?=some y/\keyOf prog 9 x.key=some y.1.1/\x.val.formed prog 215=true/\∃q,DataW.trod enc prog w base sp held n 215 x.val.cells.toList=some (y.1.2,q):=by
      intro i x hx;obtain⟨y,hy,hf⟩:=Lib.mapM_at he i x hx;simp only[ab9]at hf;obtain⟨k,hk,hf⟩:=hf;split at hf
      ·rename_i hfm;simp only[aaa]at hf;obtain⟨z,hz,rfl⟩:=hf;exact⟨_,hy,hk,hfm,z.2,hz⟩
      ·cases hf
     have hap:=apart_of_rising (entries.map (·.1)) hris;refine⟨b,es,clock,rfl,hb,⟨hs,(MapKept.stamped_iff es clock).2 ⟨?_,?_,?_⟩,?_,?_⟩⟩
     ·intro x hx;have:=Array.all_eq_true_iff_forall_mem.1 hc.2.2.1 x (by simpa using hx);simpa using this
     ·exact ChangeMaps.nodup_of_eraseDups _ (by rw[hc.2.2.2];simp)
     ·rw[zq];intro i j hi hj hij e;obtain⟨y1,hy1,k1,_⟩:=hat i _ (vd hi);obtain⟨y2,hy2,k2,_⟩:=hat j _ (vd hj);rw[e]at k1;have e1:=xt (k1.symm.trans k2);obtain⟨hi',rfl⟩:=uu.1 hy1;obtain⟨hj',rfl⟩:=uu.1 hy2;exact(zq.1 hap) i j (by simpa using hi') (by simpa using hj') hij (by simpa using e1)
     ·intro x hx;obtain⟨i,hi⟩:=Ar hx;obtain⟨y,hy,hk,hfm,q,hq⟩:=hat i x hi;obtain⟨l,hl,hkey⟩:=Vk hk;obtain⟨z,hz,e⟩:=Sw y.1 (hperm.mem_iff.2 (zd.2 ⟨y,uq hy,rfl⟩));refine⟨z,hz,?_,?_⟩
      ·rw[hkey];rw[e]at hl;injection hl with hl;rw[hl]
      ·rw[e]at hq;have hcs:=jd hq
       cases hv:x.val with
       | agg vs=>
        rw[hv]at hcs;have:vs.toList=[U z.2.1,U z.2.2]:=hcs;congr 1;rw[<- Hr (xs:=vs),this]
       | _=>
        rw[hv]at hfm;unfold Value.formed at hfm;simp[underlying215]at hfm
     ·intro z hz;have hm:=hperm.mem_iff.1 (Sx (H:=H) z hz);obtain⟨y,hy,e⟩:=zd.1 hm;obtain⟨i,hi⟩:=Ar hy;have hil:i<es.toList.length:=by rw[<- hlen];exact(uu.1 hi).1
      obtain⟨y',hy',hk,_⟩:=hat i _ (vd hil);obtain rfl:=xt (hi.symm.trans hy');obtain⟨l,hl,hkey⟩:=Vk hk;refine⟨es.toList[i],ab6 hil,?_⟩;rw[hkey];rw[e]at hl;injection hl with hl;rw[hl]
    ·cases h3
   ·cases h
end
theorem od {l:List (String×DataW Unit)} {W:World} (h:laidMetH prog l W) (hf:l.filter (fun x=>x.1== "alum/sql.operators")=[("alum/sql.operators",.map opData)]):∃mb es clock,mb<W.heap.size/\W.cell? ⟨0,0,none⟩=some (.map (some mb))/\W.heap[mb]?=some (.map es clock)/\OpEntries es clock:=by
 have hg:prog.globalNamed "alum/sql.operators"=some 0:=acz;have hty:(prog.globals[0]?).map (·.type)=some 213:=acz;obtain⟨ps,⟨g',t',cs,fuel,p,q,hg',ht',hvar,hd,_,_⟩,_⟩:=Np h _ _ hf acz;obtain rfl:=xt (hg.symm.trans hg');obtain rfl:=xt (hty.symm.trans ht');obtain⟨b,es,clock,hcs,hb,he⟩:=oe hd;have:=World.var?_cell hg hvar 0;have hc:cs=#[.map (some b)]:=by cases cs;simp_all
 rw[hc]at this;exact⟨b,es,clock,(uh.1 hb).1,this,hb,he⟩
theorem o9 {l:List (String×DataW Unit)} {W:World} (h:laidMetH prog l W) (hs:W.ShapedOpen prog) (h0:l.filter (fun x=>x.1== "alum/sql.operators")=[("alum/sql.operators",.map opData)]) (h1:l.filter (fun x=>x.1== "internal/strconv.uint64pow10")=[("internal/strconv.uint64pow10",Lib.tabData .u64 Lib.pow10Tab)]) (h2:l.filter (fun x=>x.1== "unicode.properties")=[("unicode.properties",Lib.tabData .u8 Lib.propertiesTab)]) (h3:l.filter (fun x=>x.1== "strconv.ErrSyntax")=[("strconv.ErrSyntax",Rows.laid_strconv_ErrSyntax)]) (h4:l.filter (fun x=>x.1== "strconv.ErrRange")=[("strconv.ErrRange",Rows.laid_strconv_ErrRange)]):Env W.heap.size W:=by
 refine⟨?_,tu _,od h h0,?_,n9 h h1,bq h h2,Qv h "strconv.ErrSyntax" _ _ 4 141 _ acz acz underlying141 ⟨_,rfl⟩ h3 acz,Qv h "strconv.ErrRange" _ _ 5 141 _ acz acz underlying141 ⟨_,rfl⟩ h4 acz⟩
 ·have hx:(((begin prog (fun _ _=>0) default).world.heap[11]?).bind Obj.row?).isSome=true:=acz;obtain⟨⟨z,t⟩,hz⟩:=ye.1 hx;obtain⟨cs,hc,_⟩:=hs.1 11 z t (zw acz) hz;exact(uh.1 hc).1
 ·exact Go.Proofs.cell_of_shapedOpen_int (zero:=#[U 0]) (t:=3) hs (zw acz) acz rfl acz acz underlying3
def opList:List (Bytes×Int×Int):=[([42],5,5),([43],3,4),([45],4,4),([60],8,3),([60,61],9,3),([60,62],7,3),([61],6,3),([62],10,3),([62,61],11,3),([97,110,100],12,1),([111,114],13,0)]
def opEntry (i:Nat) (x:Bytes×Int×Int):MapEntry:=⟨.string (Y x.1),.agg #[U x.2.1,U x.2.2],i⟩
def opEntries:List MapEntry:=opList.mapIdx opEntry
noncomputable def base0 (os:Os):World:=World.holding prog os ⟨#[],#[],[]⟩
noncomputable def base1 (os:Os):World:={base0 os with heap:=((base0 os).heap.setIfInBounds 0 (.cells #[.map (some (base0 os).heap.size)] 213)).push (.map opEntries.toArray 11)}
def greatNames:List String:=["math/bits.deBruijn32tab","math/bits.deBruijn64tab","internal/strconv.uint64pow10","unicode/utf8.acceptRanges","strconv.ErrRange","strconv.ErrSyntax","unicode.properties","unicode.CaseRanges","unicode.Lower","unicode/utf8.first"]
noncomputable def startOf (os:Os) (l:List (String×DataW Unit)):World:=(base1 os).layVars prog (l.filter fun x=>greatNames.contains x.1)
theorem Ru (os:Os) (l:List (String×DataW Unit)):(startOf os l).os=os:=World.layVars_os _ _ _
theorem Wg {os:Os} {l:List (String×DataW Unit)} (args:Array Value) (hf:(base1 os).layFits prog (l.filter fun x=>greatNames.contains x.1) [0,17]=true) (hi:(base1 os).layIfaces prog (l.filter fun x=>greatNames.contains x.1) (startOf os l)=true) (hs:LaidIn prog (startOf os l) (l.filter fun x=>!greatNames.contains x.1) [0,17]):laidMet prog l ((startOf os l).forCall (fun _ _=>0) ⟨#[],args,[]⟩).memory:=by
 have h:laidMet prog l (startOf os l):=laidMet_layVars greatNames [0,17] rfl hf hi hs;exact h.of_heap (by simp[World.memory,World.forCall,Input.heap])
section
variable {H:Type} {enc:TypeId×Value->H}
theorem Hz {C:Checked} {os:Os} {f:FuncId} {fn:Func} {s:OpenSpec} {conds:List PathCond} {apart:Bool} {laid:List (String×DataW Unit)} (modest:Bool) (w0:World) (args:Array Value) (hos:w0.os=os)
 (hv:(w0.forCall (fun _ _=>0) ⟨#[],args,[]⟩).variablesZipB C.prog=true)
 (hr:((w0.forCall (fun _ _=>0) ⟨#[],args,[]⟩).heap.toList.drop C.prog.globals.size).take ((begin C.prog (fun _ _=>0) default).world.heap.size - C.prog.globals.size)=
  (begin C.prog (fun _ _=>0) default).world.heap.toList.drop C.prog.globals.size)
 (hok:Input.okWideB C.prog (w0.forCall (fun _ _=>0) ⟨#[],args,[]⟩) f ⟨#[],args,[]⟩=true)
 (hrow:s.preRow enc C.prog fn conds apart laid (w0.forCall (fun _ _=>0) ⟨#[],args,[]⟩).memory args):
 ∃(w:World) (tape:Tape) (i:Input),w.os=os/\(w.forCall tape i).Shaped C.prog/\i.vars=[]/\Input.okWide C.prog (w.forCall tape i) .any w.heap.size f i/\
  s.preRow enc C.prog fn conds apart laid (w.forCall tape i).memory i.args/\({modest:=modest}:Assume).holds C.prog (lone (Frame.enter C.prog f i.args .normal) [] (w.forCall tape i)):=
 ⟨w0,fun _ _=>0,⟨#[],args,[]⟩,hos,World.shaped_of_ZipB hv hr,(Input.okWide_of_okWideB (base:=0) hok).1,(Input.okWide_of_okWideB hok).2,hrow,by
  simp only[Assume.holds];exact⟨by simp,by simp,fun _=>Modest.zero,by simp,by simp⟩⟩
end
def allLaid:List (String×DataW Unit):=Rows.sqlTokensMatchSpecRow.laid
theorem fh (os:Os):(base1 os).layFits prog (allLaid.filter fun x=>greatNames.contains x.1) [0,17]=true:=acz
theorem Ut (os:Os):(base1 os).layIfaces prog (allLaid.filter fun x=>greatNames.contains x.1) (startOf os allLaid)=true:=acz
theorem pj (os:Os):LaidIn prog (startOf os allLaid) (allLaid.filter fun x=>!greatNames.contains x.1) [0,17]:=
 LaidIn.of_run [0,17] 8 acz acz acz acz
theorem kh (os:Os) (args:Array Value):((startOf os allLaid).forCall (fun _ _=>0) ⟨#[],args,[]⟩).variablesZipB prog=true:=acz
theorem Uu (os:Os) (args:Array Value):(((startOf os allLaid).forCall (fun _ _=>0) ⟨#[],args,[]⟩).heap.toList.drop prog.globals.size).take ((begin prog (fun _ _=>0) default).world.heap.size - prog.globals.size)=
 (begin prog (fun _ _=>0) default).world.heap.toList.drop prog.globals.size:=acz
theorem ki (os:Os) (args:Array Value):laidMet prog allLaid ((startOf os allLaid).forCall (fun _ _=>0) ⟨#[],args,[]⟩).memory:=Wg args (fh os) (Ut os) (pj os)
end Go.Proofs.YtimoefagohifaaaGreatDoor
