/- Part 13; the last part says what is proved. No condition. -/
import Derived.Test.YtjmmbebkbkgefaaGreatDoorCards
import Derived.Test.YtjmmbebkbkgefaaGreatDoorTie
import Derived.Deep.DeepHandedRow
import Derived.Deep.DeepWitnessRowRef
import Derived.Lib.SmallJoins
import Derived.Lay
import Derived.LaidSub
import Derived.LaidLaws
import Derived.FnData
import Derived.SevenTiedAt
import Derived.ChangeMaps
import Derived.ChangeAnyMap
import Derived.MapKept
import Derived.Test.YtjmmbebkbkgefaaGreatDoorB04
set_option linter.unusedVariables false
set_option linter.unusedSimpArgs false
set_option maxRecDepth 100000
namespace Go.Proofs.YtjmmbebkbkgefaaGreatDoor
open Go.ChangeShapes Go.WideShapes Go.ChangeAt Go.RowKit Go.Joins Go.Proofs.Tryz
theorem own:ownKnob prog.godebug=none:=by kernel_rfl
theorem Sw:laidOutB prog=true:=by kernel_rfl
theorem My {l:List (String×DataW Unit)} {W:World} (h:laidMetH prog l W) (name:String) (d:DataW Unit) (hf:l.filter (fun x=>x.1==name)=[(name,d)]) (hh:d.handleName?=none):laidMet prog [(name,d)] W:=by
 have h1:=laidMetH.filter (fun x=>x.1==name) h;rw[hf]at h1;unfold laidMetH at h1;simp only[List.filter_cons,hh,Option.isSome_none,Bool.false_eq_true,if_false,List.filter_nil]at h1;exact h1
theorem ay {l:List (String×DataW Unit)} {W:World} (h:laidMetH prog l W) (hf:l.filter (fun x=>x.1== "internal/strconv.uint64pow10")=[("internal/strconv.uint64pow10",Lib.tabData .u64 Lib.pow10Tab)]):
 Lib.TabIs prog W "internal/strconv.uint64pow10" .u64 Lib.pow10Tab:=
 Lib.tabIs_of_head (g:=6) (t:=(prog.globals[6]?.map (·.type)).getD 0) (e:=match prog.underlying ((prog.globals[6]?.map (·.type)).getD 0)with|some (.array _ e)=>e|_=>0) (n:=20) (by kernel_rfl) (by kernel_rfl) (by kernel_rfl) (by kernel_rfl) (by kernel_rfl) (by kernel_rfl) (My h _ _ hf (by kernel_rfl))
theorem Xh {l:List (String×DataW Unit)} {W:World} (h:laidMetH prog l W) (hf:l.filter (fun x=>x.1== "unicode.properties")=[("unicode.properties",Lib.tabData .u8 Lib.propertiesTab)]):
 Lib.TabIs prog W "unicode.properties" .u8 Lib.propertiesTab:=
 Lib.tabIs_of_head (g:=1) (t:=(prog.globals[1]?.map (·.type)).getD 0) (e:=5) (n:=256) (by kernel_rfl) (by kernel_rfl) (by kernel_rfl) (by kernel_rfl) (by kernel_rfl) (by kernel_rfl) (My h _ _ hf (by kernel_rfl))
theorem Ph {l:List (String×DataW Unit)} {W:World} (h:laidMetH prog l W) (name ty:String) (d:DataW Unit) (g t:Nat) (m:TypeDesc) (hg:prog.globalNamed name=some g) (hty:(prog.globals[g]?).map (·.type)=some t) (hu:prog.underlying t=some m) (hm:∃a,m=.interface a)
 (hf:l.filter (fun x=>x.1==name)=[(name,.iface ty d)]) (hh:(DataW.iface ty d).handleName?=none):∃t p,W.cell? ⟨g,0,none⟩=some (.iface t p):=by
 obtain⟨ps,⟨g',t',cs,fuel,p,q,hg',ht',hvar,hd,_,_⟩,_⟩:=My h _ _ hf hh
 obtain rfl:=Option.some.inj (hg.symm.trans hg')
 obtain rfl:=Option.some.inj (hty.symm.trans ht')
 obtain⟨a,rfl⟩:=hm
 obtain⟨_,u,v,hcs,_,_⟩:=iface_of_trod hu hd
 have:=World.var?_cell hg hvar 0
 have hc:cs=#[.iface u v]:=by cases cs;simp_all
 rw[hc]at this
 exact⟨u,v,this⟩
theorem ao {cs:List Value} (h:cs.length=2):∃c0 c1,cs=[c0,c1]:=by
 rcases cs with _|⟨a,_|⟨b,_|⟨c,r⟩⟩⟩<;>simp at h
 exact⟨a,b,rfl⟩
section
variable {H:Type} {enc:TypeId×Value->H} {w:World} {base:Nat} {sp:Nat->Bool} {held:Bool} {fuel:Nat} {cs:List Value} {p:List MemPlace}
theorem Zp {a b:Int} (h:DataW.trod enc prog w base sp held fuel 246 cs=some (.agg [.lit (.int .i64 a),.lit (.int .i64 b)],p)):cs=[.int .i64 a,.int .i64 b]:=by
 obtain⟨y0,y1,m,hx,hl,h0,h1⟩:=trod_struct2 underlying246 h;have hc2:prog.cellsOf 246=2:=by kernel_rfl
 rw[hc2]at hl;obtain⟨c0,c1,rfl⟩:∃c0 c1,cs=[c0,c1]:=ao hl;obtain⟨s',e0,e1,_⟩:=DataW.trod_int underlying3 h0;obtain⟨n',e2,e3,_⟩:=DataW.trod_int underlying3 h1;have k3:prog.cellsOf 3=1:=by kernel_rfl
 simp only[k3,List.drop_zero,List.drop_succ_cons,List.take_succ_cons,List.take_zero,List.cons.injEq,and_true]at e0 e2;subst e0 e1 e2 e3;simp only[Prod.mk.injEq,DataW.agg.injEq,List.cons.injEq,DataW.lit.injEq,Lit.int.injEq,true_and,and_true]at hx;obtain⟨⟨rfl,rfl⟩,_⟩:=hx;rfl
theorem Sy {v:Value} {k:Lit} (h:keyOf prog 9 v=some k):∃l,k=.string l/\v=.string ⟨l.toArray⟩:=by
 unfold keyOf mapKey at h;simp only[underlying9]at h
 cases v with
 | string s=>
  simp only at h;split at h
  ·cases h;exact⟨_,rfl,rfl⟩
  ·cases h
 | _=>simp at h
def opData:List (Lit×DataW H):=[(.string [42],.agg [.lit (.int .i64 5),.lit (.int .i64 5)]),(.string [43],.agg [.lit (.int .i64 3),.lit (.int .i64 4)]),(.string [45],.agg [.lit (.int .i64 4),.lit (.int .i64 4)]),(.string [60],.agg [.lit (.int .i64 8),.lit (.int .i64 3)]),(.string [60,61],.agg [.lit (.int .i64 9),.lit (.int .i64 3)]),(.string [60,62],.agg [.lit (.int .i64 7),.lit (.int .i64 3)]),(.string [61],.agg [.lit (.int .i64 6),.lit (.int .i64 3)]),(.string [62],.agg [.lit (.int .i64 10),.lit (.int .i64 3)]),(.string [62,61],.agg [.lit (.int .i64 11),.lit (.int .i64 3)]),(.string [97,110,100],.agg [.lit (.int .i64 12),.lit (.int .i64 1)]),(.string [111,114],.agg [.lit (.int .i64 13),.lit (.int .i64 0)])]
theorem Qt (q:Lit×DataW H) (h:q∈(opData:List (Lit×DataW H))):∃y∈opTab,q=(.string y.1,.agg [.lit (.int .i64 y.2.1),.lit (.int .i64 y.2.2)]):=by
 simp only[opData,List.mem_cons,List.not_mem_nil,or_false]at h;rcases h with rfl|rfl|rfl|rfl|rfl|rfl|rfl|rfl|rfl|rfl|rfl
 ·exact⟨([42],5,5),by decide,rfl⟩
 ·exact⟨([43],3,4),by decide,rfl⟩
 ·exact⟨([45],4,4),by decide,rfl⟩
 ·exact⟨([60],8,3),by decide,rfl⟩
 ·exact⟨([60,61],9,3),by decide,rfl⟩
 ·exact⟨([60,62],7,3),by decide,rfl⟩
 ·exact⟨([61],6,3),by decide,rfl⟩
 ·exact⟨([62],10,3),by decide,rfl⟩
 ·exact⟨([62,61],11,3),by decide,rfl⟩
 ·exact⟨([97,110,100],12,1),by decide,rfl⟩
 ·exact⟨([111,114],13,0),by decide,rfl⟩
theorem Qu (y:Bytes×Int×Int) (h:y∈opTab):((.string y.1,.agg [.lit (.int .i64 y.2.1),.lit (.int .i64 y.2.2)]):Lit×DataW H)∈(opData:List (Lit×DataW H)):=by
 simp only[opTab,List.mem_cons,List.not_mem_nil,or_false]at h;rcases h with rfl|rfl|rfl|rfl|rfl|rfl|rfl|rfl|rfl|rfl|rfl<;>simp[opData]
theorem ba (h:DataW.trod enc prog w base sp held fuel 244 cs=some (.map opData,p)):∃b es clock,cs=[.map (some b)]/\w.heap[b]?=some (.map es clock)/\OpEntries es clock:=by
 have ht:prog.underlying 244=some (.map 9 246):=underlying244;obtain⟨_,hx⟩|⟨b,es,clock,_,rfl,hb,hs,_,_⟩:=open_anymap ht h
 ·cases hx
 ·cases fuel with
  | zero=>simp[DataW.trod]at h
  | succ n=>
   rw[DataW.trod_step]at h;unfold DataW.trodStep at h;simp only[ht,hb]at h;split at h
   ·rename_i hc;simp only[Option.bind_eq_some_iff]at h;obtain⟨entries,he,h3⟩:=h;split at h3
    ·rename_i hris;have hs2:(entries.map (·.1)).foldr DataW.insert []=opData:=by
      have:=congrArg Prod.fst (Option.some.inj h3);simpa using this
     have hperm:=sorted_perm (entries.map (·.1));rw[hs2]at hperm;have hlen:=mapM_len he;have hat:∀(i:Nat) (x:MapEntry),es.toList[i]?=some x->∃y,entries[i]?=some y/\keyOf prog 9 x.key=some y.1.1/\x.val.formed prog 246=true/\∃q,DataW.trod enc prog w base sp held n 246 x.val.cells.toList=some (y.1.2,q):=by
      intro i x hx;obtain⟨y,hy,hf⟩:=Lib.mapM_at he i x hx;simp only[Option.bind_eq_some_iff]at hf;obtain⟨k,hk,hf⟩:=hf;split at hf
      ·rename_i hfm;simp only[Option.map_eq_some_iff]at hf;obtain⟨z,hz,rfl⟩:=hf;exact⟨_,hy,hk,hfm,z.2,hz⟩
      ·cases hf
     have hap:=apart_of_rising (entries.map (·.1)) hris;refine⟨b,es,clock,rfl,hb,⟨hs,(MapKept.stamped_iff es clock).2 ⟨?_,?_,?_⟩,?_,?_⟩⟩
     ·intro x hx;have:=Array.all_eq_true_iff_forall_mem.1 hc.2.2.1 x (by simpa using hx);simpa using this
     ·exact ChangeMaps.nodup_of_eraseDups _ (by rw[hc.2.2.2];simp)
     ·rw[List.pairwise_iff_getElem];intro i j hi hj hij e;obtain⟨y1,hy1,k1,_⟩:=hat i _ (List.getElem?_eq_getElem hi);obtain⟨y2,hy2,k2,_⟩:=hat j _ (List.getElem?_eq_getElem hj);rw[e]at k1;have e12:=Option.some.inj (k1.symm.trans k2);obtain⟨hi',rfl⟩:=List.getElem?_eq_some_iff.1 hy1;obtain⟨hj',rfl⟩:=List.getElem?_eq_some_iff.1 hy2;exact(List.pairwise_iff_getElem.1 hap) i j (by simpa using hi') (by simpa using hj') hij (by simpa using e12)
     ·intro x hx;obtain⟨i,hi⟩:=List.getElem?_of_mem hx;obtain⟨y,hy,hk,hfm,q,hq⟩:=hat i x hi;obtain⟨l,hl,hkey⟩:=Sy hk;obtain⟨z,hz,e⟩:=Qt y.1 (hperm.mem_iff.2 (List.mem_map.2 ⟨y,List.mem_of_getElem? hy,rfl⟩));refine⟨z,hz,?_,?_⟩
      ·rw[hkey];rw[e]at hl;injection hl with hl;rw[hl]
      ·rw[e]at hq;have hcs:=Zp hq
       cases hv:x.val with
       | agg vs=>
        rw[hv]at hcs;have:vs.toList=[.int .i64 z.2.1,.int .i64 z.2.2]:=hcs;congr 1;rw[<- Array.toArray_toList (xs:=vs),this]
       | _=>
        rw[hv]at hfm;unfold Value.formed at hfm;simp[underlying246]at hfm
     ·intro z hz;have hm:=hperm.mem_iff.1 (Qu (H:=H) z hz);obtain⟨y,hy,e⟩:=List.mem_map.1 hm;obtain⟨i,hi⟩:=List.getElem?_of_mem hy;have hil:i<es.toList.length:=by rw[<- hlen];exact(List.getElem?_eq_some_iff.1 hi).1
      obtain⟨y',hy',hk,_⟩:=hat i _ (List.getElem?_eq_getElem hil);obtain rfl:=Option.some.inj (hi.symm.trans hy');obtain⟨l,hl,hkey⟩:=Sy hk;refine⟨es.toList[i],List.getElem_mem hil,?_⟩;rw[hkey];rw[e]at hl;injection hl with hl;rw[hl]
    ·cases h3
   ·cases h
end
theorem az {l:List (String×DataW Unit)} {W:World} (h:laidMetH prog l W) (hf:l.filter (fun x=>x.1== "alum/sql.operators")=[("alum/sql.operators",.map opData)]):
 ∃mb es clock,mb<W.heap.size/\W.cell? ⟨0,0,none⟩=some (.map (some mb))/\W.heap[mb]?=some (.map es clock)/\OpEntries es clock:=by
 have hg:prog.globalNamed "alum/sql.operators"=some 0:=by kernel_rfl
 have hty:(prog.globals[0]?).map (·.type)=some 244:=by kernel_rfl
 obtain⟨ps,⟨g',t',cs,fuel,p,q,hg',ht',hvar,hd,_,_⟩,_⟩:=My h _ _ hf (by kernel_rfl)
 obtain rfl:=Option.some.inj (hg.symm.trans hg')
 obtain rfl:=Option.some.inj (hty.symm.trans ht')
 obtain⟨b,es,clock,hcs,hb,he⟩:=ba hd
 have:=World.var?_cell hg hvar 0
 have hc:cs=#[.map (some b)]:=by cases cs;simp_all
 rw[hc]at this
 exact⟨b,es,clock,(Array.getElem?_eq_some_iff.1 hb).1,this,hb,he⟩
theorem Ym {l:List (String×DataW Unit)} {W:World} (h:laidMetH prog l W) (hs:W.ShapedOpen prog) (h0:l.filter (fun x=>x.1== "alum/sql.operators")=[("alum/sql.operators",.map opData)])
 (h1:l.filter (fun x=>x.1== "internal/strconv.uint64pow10")=[("internal/strconv.uint64pow10",Lib.tabData .u64 Lib.pow10Tab)]) (h2:l.filter (fun x=>x.1== "unicode.properties")=[("unicode.properties",Lib.tabData .u8 Lib.propertiesTab)])
 (h3:l.filter (fun x=>x.1== "strconv.ErrSyntax")=[("strconv.ErrSyntax",Rows.laid_strconv_ErrSyntax)]) (h4:l.filter (fun x=>x.1== "strconv.ErrRange")=[("strconv.ErrRange",Rows.laid_strconv_ErrRange)]):Env W.heap.size W:=by
 refine⟨?_,Nat.le_refl _,az h h0,?_,ay h h1,Xh h h2,Ph h "strconv.ErrSyntax" _ _ 4 204 _ (by kernel_rfl) (by kernel_rfl) underlying204 ⟨_,rfl⟩ h3 (by kernel_rfl),Ph h "strconv.ErrRange" _ _ 5 204 _ (by kernel_rfl) (by kernel_rfl) underlying204 ⟨_,rfl⟩ h4 (by kernel_rfl)⟩
 ·have hx:(((begin prog (fun _ _=>0) default).world.heap[11]?).bind Obj.row?).isSome=true:=by kernel_rfl
  obtain⟨⟨z,t⟩,hz⟩:=Option.isSome_iff_exists.1 hx;obtain⟨cs,hc,_⟩:=hs.1 11 z t (of_decide_eq_true (by kernel_rfl)) hz;exact(Array.getElem?_eq_some_iff.1 hc).1
 ·exact Go.Proofs.cell_of_shapedOpen_int (zero:=#[.int .i64 0]) (t:=3) hs (of_decide_eq_true (by kernel_rfl)) (by kernel_rfl) rfl (by kernel_rfl) (by kernel_rfl) underlying3
end Go.Proofs.YtjmmbebkbkgefaaGreatDoor
namespace Go.Proofs.YtjmmbebkbkgefaaGreatDoor
open Go.ChangeShapes Go.WideShapes Go.ChangeAt Go.RowKit Go.Joins Go.Proofs.Tryz
def opList:List (Bytes×Int×Int):=[([42],5,5),([43],3,4),([45],4,4),([60],8,3),([60,61],9,3),([60,62],7,3),([61],6,3),([62],10,3),([62,61],11,3),([97,110,100],12,1),([111,114],13,0)]
def opEntry (i:Nat) (x:Bytes×Int×Int):MapEntry:=⟨.string ⟨x.1.toArray⟩,.agg #[.int .i64 x.2.1,.int .i64 x.2.2],i⟩
def opEntries:List MapEntry:=opList.mapIdx opEntry
noncomputable def base0 (os:Os):World:=World.holding prog os ⟨#[],#[],[]⟩
noncomputable def base1 (os:Os):World:={base0 os with heap:=((base0 os).heap.setIfInBounds 0 (.cells #[.map (some (base0 os).heap.size)] 244)).push (.map opEntries.toArray 11)}
def greatNames:List String:=["math/bits.deBruijn32tab","math/bits.deBruijn64tab","internal/strconv.uint64pow10","unicode/utf8.acceptRanges","strconv.ErrRange","strconv.ErrSyntax","unicode.properties","unicode.CaseRanges","unicode.Lower","unicode/utf8.first"]
noncomputable def startOf (os:Os) (l:List (String×DataW Unit)):World:=(base1 os).layVars prog (l.filter fun x=>greatNames.contains x.1)
theorem Jl (os:Os) (l:List (String×DataW Unit)):(startOf os l).os=os:=World.layVars_os _ _ _
theorem T0 {os:Os} {l:List (String×DataW Unit)} (args:Array Value)
 (hf:(base1 os).layFits prog (l.filter fun x=>greatNames.contains x.1) [0,17]=true)
 (hi:(base1 os).layIfaces prog (l.filter fun x=>greatNames.contains x.1) (startOf os l)=true)
 (hs:LaidIn prog (startOf os l) (l.filter fun x=>!greatNames.contains x.1) [0,17]):
 laidMet prog l ((startOf os l).forCall (fun _ _=>0) ⟨#[],args,[]⟩).memory:=by
 have h:laidMet prog l (startOf os l):=laidMet_layVars greatNames [0,17] rfl hf hi hs
 exact h.of_heap (by simp[World.memory,World.forCall,Input.heap])
section
variable {H:Type} {enc:TypeId×Value->H}
theorem Dn {C:Checked} {os:Os} {f:FuncId} {fn:Func} {s:OpenSpec} {conds:List PathCond} {apart:Bool} {laid:List (String×DataW Unit)} (modest:Bool) (w0:World) (args:Array Value) (hos:w0.os=os)
 (hv:(w0.forCall (fun _ _=>0) ⟨#[],args,[]⟩).variablesZipB C.prog=true)
 (hr:((w0.forCall (fun _ _=>0) ⟨#[],args,[]⟩).heap.toList.drop C.prog.globals.size).take ((begin C.prog (fun _ _=>0) default).world.heap.size - C.prog.globals.size)=
  (begin C.prog (fun _ _=>0) default).world.heap.toList.drop C.prog.globals.size)
 (hok:Input.okWideB C.prog (w0.forCall (fun _ _=>0) ⟨#[],args,[]⟩) f ⟨#[],args,[]⟩=true)
 (hrow:s.preRow enc C.prog fn conds apart laid (w0.forCall (fun _ _=>0) ⟨#[],args,[]⟩).memory args):
 ∃(w:World) (tape:Tape) (i:Input),w.os=os/\(w.forCall tape i).Shaped C.prog/\i.vars=[]/\Input.okWide C.prog (w.forCall tape i) .any w.heap.size f i/\
  s.preRow enc C.prog fn conds apart laid (w.forCall tape i).memory i.args/\({modest:=modest}:Assume).holds C.prog (lone (Frame.enter C.prog f i.args .normal) [] (w.forCall tape i)):=
 ⟨w0,fun _ _=>0,⟨#[],args,[]⟩,hos,World.shaped_of_ZipB hv hr,(Input.okWide_of_okWideB (base:=0) hok).1,(Input.okWide_of_okWideB hok).2,hrow,by
  simp only[Assume.holds];exact⟨by simp,by simp,fun _=>Modest.zero,by simp,by simp⟩⟩
end
def allLaid:List (String×DataW Unit):=Rows.sqlResolveMatchesSpecRow.laid
theorem Y5 (os:Os):(base1 os).layFits prog (allLaid.filter fun x=>greatNames.contains x.1) [0,17]=true:=by kernel_rfl
theorem Sc (os:Os):(base1 os).layIfaces prog (allLaid.filter fun x=>greatNames.contains x.1) (startOf os allLaid)=true:=by kernel_rfl
theorem cm (os:Os):LaidIn prog (startOf os allLaid) (allLaid.filter fun x=>!greatNames.contains x.1) [0,17]:=
 LaidIn.of_run [0,17] 8 (by kernel_rfl) (by kernel_rfl) (by kernel_rfl) (by kernel_rfl)
theorem Tk (os:Os) (args:Array Value):((startOf os allLaid).forCall (fun _ _=>0) ⟨#[],args,[]⟩).variablesZipB prog=true:=by kernel_rfl
theorem Kv (os:Os) (args:Array Value):(((startOf os allLaid).forCall (fun _ _=>0) ⟨#[],args,[]⟩).heap.toList.drop prog.globals.size).take ((begin prog (fun _ _=>0) default).world.heap.size - prog.globals.size)=
 (begin prog (fun _ _=>0) default).world.heap.toList.drop prog.globals.size:=by kernel_rfl
theorem Tl (os:Os) (args:Array Value):laidMet prog allLaid ((startOf os allLaid).forCall (fun _ _=>0) ⟨#[],args,[]⟩).memory:=T0 args (Y5 os) (Sc os) (cm os)
end Go.Proofs.YtjmmbebkbkgefaaGreatDoor
