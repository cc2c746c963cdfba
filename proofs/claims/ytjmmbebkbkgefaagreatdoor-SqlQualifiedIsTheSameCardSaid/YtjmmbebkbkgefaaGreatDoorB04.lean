/- Part 4; the last part says what is proved. No condition. -/
import Derived.Laws.IdiomMaps
import Derived.StringKeys
import Derived.Lib.LaidTab
import Derived.Test.YtjmmbebkbkgefaaGreatDoorB03
set_option linter.unusedVariables false
set_option linter.unusedSimpArgs false
set_option maxHeartbeats 4000000
set_option maxRecDepth 100000
namespace Go.Proofs.YtjmmbebkbkgefaaGreatDoor
open Go.RowKit Go.Sort Tryz
def strV (s:Bytes):Value:=.string ⟨s.toArray⟩
def Tok.cells (t:Tok):List Value:=[.int .i64 t.kind,.int .i64 t.at_,.string ⟨t.s.toArray⟩,.int .i64 t.n]
def tkVals (l:List Tok):List Value:=l.flatMap Tok.cells
def strVals (l:List Bytes):List Value:=l.map strV
def V.cells (v:V):List Value:=[.int .i64 v.k,.int .i64 v.n,.string v.s]
mutual
def ExIn (Q:Nat->Prop) (w:World):Ex->List Value->Prop
 | .mk op t n v args,cs=>∃a acs,cs=[.int .i64 op,.string ⟨t.toArray⟩,.string ⟨n.toArray⟩,.int .i64 v.k,.int .i64 v.n,.string v.s,a]/\SlIn Q w a args.length acs/\ExsIn Q w args acs
def ExsIn (Q:Nat->Prop) (w:World):List Ex->List Value->Prop
 | [],acs=>acs=[]
 | e::l,acs=>∃c1 c2,acs=c1++c2/\ExIn Q w e c1/\ExsIn Q w l c2
end
def ExSl (Q:Nat->Prop) (w:World) (v:Value) (l:List Ex):Prop:=∃acs,SlIn Q w v l.length acs/\ExsIn Q w l acs
theorem ExIn.len {Q:Nat->Prop} {w:World} {e:Ex} {cs:List Value} (h:ExIn Q w e cs):cs.length=7:=by
 obtain⟨op,t,n,v,args⟩:=e;obtain⟨a,acs,rfl,_⟩:=h;rfl
theorem ExsIn.len {Q:Nat->Prop} {w:World}:∀{l:List Ex} {acs:List Value},ExsIn Q w l acs->acs.length=l.length * 7
 | [],acs,h=>by simp only[ExsIn]at h;subst h;rfl
 | e::l,acs,h=>by
  obtain⟨c1,c2,rfl,h1,h2⟩:=h;have:=h1.len;have:=ExsIn.len h2;simp only[List.length_append,List.length_cons];omega
theorem Ar {Q R:Nat->Prop} {w w':World} (hq:∀b,b<w.heap.size->Q b->R b/\w'.heap[b]?=w.heap[b]?):∀e:Ex,∀cs,ExIn Q w e cs->ExIn R w' e cs:=by
 refine Ex.ind fun op t n v args ih=>?_;rintro cs ⟨a,acs,rfl,h1,h2⟩;have key:∀(l:List Ex) (acs:List Value),(∀e∈l,∀cs,ExIn Q w e cs->ExIn R w' e cs)->ExsIn Q w l acs->ExsIn R w' l acs:=by
  intro l
  induction l with
  | nil=>intro acs _ h;exact h
  | cons e l ihl=>
   rintro acs hl ⟨c1,c2,rfl,k1,k2⟩;exact⟨c1,c2,rfl,hl e (by simp) _ k1,ihl _ (fun d hd=>hl d (by simp[hd])) k2⟩
 refine⟨a,acs,rfl,?_,key args acs ih h2⟩;obtain⟨ad,cap,e,hc,h⟩:=h1;refine⟨ad,cap,e,hc,fun hn=>?_⟩;obtain⟨b,o,e2,k1,k2⟩:=h hn;have hl:=ExsIn.len h2;have hlt:=k2.lt (by intro e;rw[e]at hl;simp at hl;omega);have:=hq b hlt k1;exact⟨b,o,e2,this.1,k2.same this.2⟩
theorem B2 {Q R:Nat->Prop} {w w':World} (hq:∀b,b<w.heap.size->Q b->R b/\w'.heap[b]?=w.heap[b]?):∀(l:List Ex) (acs:List Value),ExsIn Q w l acs->ExsIn R w' l acs
 | [],acs,h=>h
 | e::l,acs,h=>by
  obtain⟨c1,c2,rfl,k1,k2⟩:=h;exact⟨c1,c2,rfl,Ar hq e _ k1,B2 hq l _ k2⟩
theorem A8 {Q R:Nat->Prop} {w w':World} (hq:∀b,b<w.heap.size->Q b->R b/\w'.heap[b]?=w.heap[b]?) {v:Value} {l:List Ex} (h:ExSl Q w v l):ExSl R w' v l:=by
 obtain⟨acs,⟨ad,cap,e,hc,h1⟩,h2⟩:=h;refine⟨acs,⟨ad,cap,e,hc,fun hn=>?_⟩,B2 hq _ _ h2⟩;obtain⟨b,o,e2,k1,k2⟩:=h1 hn;have hl:=ExsIn.len h2;have hlt:=k2.lt (by intro e;rw[e]at hl;simp at hl;omega);have:=hq b hlt k1;exact⟨b,o,e2,this.1,k2.same this.2⟩
theorem ExIn.mono {Q R:Nat->Prop} {w:World} {e:Ex} {cs:List Value} (h:ExIn Q w e cs) (hq:∀b,Q b->R b):ExIn R w e cs:=Ar (fun b _ hb=>⟨hq b hb,rfl⟩) e cs h
theorem ExIn.turned {Q M:Nat->Prop} {w w':World} {e:Ex} {cs:List Value} (h:ExIn Q w e cs) (ht:Turn M w w') (hq:∀b,Q b->¬M b):ExIn Q w' e cs:=Ar (fun b hb k=>⟨k,ht.block b hb (hq b k)⟩) e cs h
theorem ExIn.kept {Q:Nat->Prop} {w w':World} {e:Ex} {cs:List Value} (h:ExIn Q w e cs) (hb:Below w.heap.size w w'):ExIn Q w' e cs:=Ar (fun b hl k=>⟨k,hb.block b hl⟩) e cs h
theorem ExsIn.mono {Q R:Nat->Prop} {w:World} {l:List Ex} {cs:List Value} (h:ExsIn Q w l cs) (hq:∀b,Q b->R b):ExsIn R w l cs:=B2 (fun b _ hb=>⟨hq b hb,rfl⟩) l cs h
theorem ExsIn.turned {Q M:Nat->Prop} {w w':World} {l:List Ex} {cs:List Value} (h:ExsIn Q w l cs) (ht:Turn M w w') (hq:∀b,Q b->¬M b):ExsIn Q w' l cs:=B2 (fun b hb k=>⟨k,ht.block b hb (hq b k)⟩) l cs h
theorem ExsIn.kept {Q:Nat->Prop} {w w':World} {l:List Ex} {cs:List Value} (h:ExsIn Q w l cs) (hb:Below w.heap.size w w'):ExsIn Q w' l cs:=B2 (fun b hl k=>⟨k,hb.block b hl⟩) l cs h
theorem ExSl.mono {Q R:Nat->Prop} {w:World} {v:Value} {l:List Ex} (h:ExSl Q w v l) (hq:∀b,Q b->R b):ExSl R w v l:=A8 (fun b _ hb=>⟨hq b hb,rfl⟩) h
theorem ExSl.turned {Q M:Nat->Prop} {w w':World} {v:Value} {l:List Ex} (h:ExSl Q w v l) (ht:Turn M w w') (hq:∀b,Q b->¬M b):ExSl Q w' v l:=A8 (fun b hb k=>⟨k,ht.block b hb (hq b k)⟩) h
theorem ExSl.kept {Q:Nat->Prop} {w w':World} {v:Value} {l:List Ex} (h:ExSl Q w v l) (hb:Below w.heap.size w w'):ExSl Q w' v l:=A8 (fun b hl k=>⟨k,hb.block b hl⟩) h
theorem A6 {Q:Nat->Prop} {w:World} {op:Int} {t n:Bytes} {v:V} {args:List Ex} {cs:List Value} (h:ExIn Q w (.mk op t n v args) cs):∃a,cs=[.int .i64 op,.string ⟨t.toArray⟩,.string ⟨n.toArray⟩,.int .i64 v.k,.int .i64 v.n,.string v.s,a]/\ExSl Q w a args:=by
 obtain⟨a,acs,h1,h2,h3⟩:=h;exact⟨a,h1,acs,h2,h3⟩
theorem Bc {Q:Nat->Prop} {w:World} {op:Int} {t n:Bytes} {v:V} {args:List Ex} {a:Value} (h:ExSl Q w a args):ExIn Q w (.mk op t n v args) [.int .i64 op,.string ⟨t.toArray⟩,.string ⟨n.toArray⟩,.int .i64 v.k,.int .i64 v.n,.string v.s,a]:=by
 obtain⟨acs,h2,h3⟩:=h;exact⟨a,acs,rfl,h2,h3⟩
theorem ExSl.nil (Q:Nat->Prop) (w:World):ExSl Q w (.slice none 0 0) []:=⟨[],⟨none,0,rfl,Nat.le_refl _,fun h=>absurd h (by simp)⟩,rfl⟩
theorem Jm {Q:Nat->Prop} {w:World} {v:Value} {n:Nat} {cs:List Value} (h:SlIn Q w v n cs):v.oneCell'=true:=by
 obtain⟨a,cap,rfl,_⟩:=h;rfl
theorem ExIn.ones {Q:Nat->Prop} {w:World} {e:Ex} {cs:List Value} (h:ExIn Q w e cs):∀u∈cs,u.oneCell'=true:=by
 obtain⟨op,t,n,v,args⟩:=e;obtain⟨a,acs,rfl,h1,_⟩:=h;intro u hu;simp only[List.mem_cons,List.not_mem_nil,or_false]at hu;rcases hu with rfl|rfl|rfl|rfl|rfl|rfl|rfl
 all_goals first|rfl|exact Jm h1
theorem ExsIn.ones {Q:Nat->Prop} {w:World}:∀{l:List Ex} {acs:List Value},ExsIn Q w l acs->∀u∈acs,u.oneCell'=true
 | [],acs,h,u,hu=>by simp only[ExsIn]at h;subst h;cases hu
 | e::l,acs,h,u,hu=>by
  obtain⟨c1,c2,rfl,h1,h2⟩:=h;rcases List.mem_append.1 hu with hu|hu
  ·exact h1.ones u hu
  ·exact ExsIn.ones h2 u hu
theorem ExsIn.get {Q:Nat->Prop} {w:World}:∀{l:List Ex} {acs:List Value} {i:Nat} {e:Ex},ExsIn Q w l acs->l[i]?=some e->∃c,ExIn Q w e c/\∀j u,c[j]?=some u->acs[i * 7+j]?=some u
 | [],acs,i,e,_,hi=>by cases hi
 | d::l,acs,0,e,h,hi=>by
  obtain⟨c1,c2,rfl,h1,h2⟩:=h;simp only[List.getElem?_cons_zero,Option.some.injEq]at hi;subst hi;refine⟨c1,h1,fun j u hu=>?_⟩;rw[Nat.zero_mul,Nat.zero_add,List.getElem?_append_left (List.getElem?_eq_some_iff.1 hu).1];exact hu
 | d::l,acs,i+1,e,h,hi=>by
  obtain⟨c1,c2,rfl,h1,h2⟩:=h;simp only[List.getElem?_cons_succ]at hi;obtain⟨c,hc,hj⟩:=ExsIn.get h2 hi;refine⟨c,hc,fun j u hu=>?_⟩;have:=h1.len;rw[List.getElem?_append_right (by omega),show(i+1) * 7+j - c1.length=i * 7+j by omega];exact hj j u hu
theorem ExsIn.append {Q:Nat->Prop} {w:World}:∀{l:List Ex} {acs:List Value} {m:List Ex} {bcs:List Value},ExsIn Q w l acs->ExsIn Q w m bcs->ExsIn Q w (l++m) (acs++bcs)
 | [],acs,m,bcs,h,k=>by simp only[ExsIn]at h;subst h;exact k
 | e::l,acs,m,bcs,h,k=>by
  obtain⟨c1,c2,rfl,h1,h2⟩:=h;exact⟨c1,c2++bcs,by simp,h1,ExsIn.append h2 k⟩
theorem ExsIn.one {Q:Nat->Prop} {w:World} {e:Ex} {cs:List Value} (h:ExIn Q w e cs):ExsIn Q w [e] cs:=⟨cs,[],by simp,h,rfl⟩
theorem Pf {Q:Nat->Prop} {w:World} {l:List Ex} {acs:List Value} {b:Nat} {t:TypeId} {fr:Nat×Nat} (h:ExsIn Q w l acs) (hb:w.heap[b]?=some (.cells acs.toArray t fr)) (hQ:Q b):ExSl Q w (.slice (some ⟨b,0,none⟩) l.length l.length) l:=by
 refine⟨acs,⟨some ⟨b,0,none⟩,l.length,rfl,Nat.le_refl _,fun _=>⟨b,0,rfl,hQ,fun j u hu=>?_⟩⟩,h⟩;simp only[World.cell?,hb,Nat.zero_add];simpa using hu
theorem Aq {Q:Nat->Prop} {w:World} {v u:Value} {l:List Ex} {b o:Nat} (h:ExSl Q w v l) (hq:∀c,Q c->c≠b):ExSl Q (w.setCell ⟨b,o,none⟩ u) v l:=
 h.turned (M:=(·=b)) ((Turn.refl _ w).setCell (.inl rfl)) hq
theorem Aw {Q:Nat->Prop} {w:World} {v:Value} {o:Obj} {l:List Ex} (h:ExSl Q w v l):ExSl Q (w.alloc o) v l:=h.kept ((Below.refl _ _).alloc (Nat.le_refl _) _)
end Go.Proofs.YtjmmbebkbkgefaaGreatDoor
namespace Go.Proofs.YtjmmbebkbkgefaaGreatDoor
open Go.RowKit Go.Sort Go.WideMaps Go.WideElems Go.WideShapes Tryz
structure OpEntries (es:Array MapEntry) (clock:Nat):Prop where
 size:es.size<=maxLen
 stamped:MapKept.Stamped es clock
 mem:∀x∈es.toList,∃y∈opTab,x.key=.string ⟨y.1.toArray⟩/\x.val=.agg #[.int .i64 y.2.1,.int .i64 y.2.2]
 all:∀y∈opTab,∃x∈es.toList,x.key=.string ⟨y.1.toArray⟩
structure Env (B:Nat) (w:World):Prop where
 lo:12<=B
 hi:B<=w.heap.size
 ops:∃mb es clock,mb<B/\w.cell? ⟨0,0,none⟩=some (.map (some mb))/\w.heap[mb]?=some (.map es clock)/\OpEntries es clock
 maxLen:∃m:Int,w.cell? ⟨3,0,none⟩=some (.int .i64 m)
 pow:Lib.TabIs prog w "internal/strconv.uint64pow10" .u64 Lib.pow10Tab
 props:Lib.TabIs prog w "unicode.properties" .u8 Lib.propertiesTab
 esyn:∃t p,w.cell? ⟨4,0,none⟩=some (.iface t p)
 eran:∃t p,w.cell? ⟨5,0,none⟩=some (.iface t p)
theorem Env.same {B:Nat} {w w':World} (h:Env B w) (hs:w.heap.size<=w'.heap.size) (hb:∀k,k<B->w'.heap[k]?=w.heap[k]?):Env B w':=by
 have hlo:=h.lo;have hc:∀(k o:Nat),k<B->w'.cell? ⟨k,o,none⟩=w.cell? ⟨k,o,none⟩:=fun k o hk=>World.cell?_of_block (a:=⟨k,o,none⟩) (hb k hk);refine⟨h.lo,Nat.le_trans h.hi hs,?_,?_,?_,?_,?_,?_⟩
 ·obtain⟨mb,es,clock,h1,h2,h3,h4⟩:=h.ops;exact⟨mb,es,clock,h1,by rw[hc 0 0 (by omega)];exact h2,by rw[hb mb h1];exact h3,h4⟩
 ·rw[hc 3 0 (by omega)];exact h.maxLen
 ·have:=h.pow;unfold Lib.TabIs World.var? at this ⊢;rw[show prog.globalNamed "internal/strconv.uint64pow10"=some 6 by kernel_rfl]at this ⊢;simp only[Option.bind_some]at this ⊢;rw[hb 6 (by omega)];exact this
 ·have:=h.props;unfold Lib.TabIs World.var? at this ⊢;rw[show prog.globalNamed "unicode.properties"=some 1 by kernel_rfl]at this ⊢;simp only[Option.bind_some]at this ⊢;rw[hb 1 (by omega)];exact this
 ·rw[hc 4 0 (by omega)];exact h.esyn
 ·rw[hc 5 0 (by omega)];exact h.eran
theorem Env.kept {B:Nat} {w w':World} (h:Env B w) (hb:Below w.heap.size w w'):Env B w':=h.same hb.size (fun k hk=>hb.block k (Nat.lt_of_lt_of_le hk h.hi))
theorem Env.turned {B:Nat} {M:Nat->Prop} {w w':World} (h:Env B w) (ht:Turn M w w') (hM:∀k,M k->B<=k):Env B w':=
 h.same ht.size (fun k hk=>ht.block k (Nat.lt_of_lt_of_le hk h.hi) (fun hm=>by have:=hM k hm;omega))
theorem Env.up {B C:Nat} {w:World} (h:Env B w) (h1:B<=C) (h2:C<=w.heap.size):Env C w:=by
 obtain⟨mb,es,clock,k1,k2⟩:=h.ops;exact⟨Nat.le_trans h.lo h1,h2,⟨mb,es,clock,Nat.lt_of_lt_of_le k1 h1,k2⟩,h.maxLen,h.pow,h.props,h.esyn,h.eran⟩
theorem Oj:WideMaps.KeyLaw prog 9:=string_law underlying9
theorem Oi:∀x∈opTab,∀y∈opTab,x.1=y.1->x=y:=by decide+kernel
theorem Xs {y:Bytes×Int×Int} (h:y∈opTab):opOf y.1=some y.2:=by
 have:∀y∈opTab,opOf y.1=some y.2:=by decide+kernel
 exact this y h
theorem U2 {s:Bytes} (h:∀y∈opTab,y.1≠s):opOf s=none:=by
 unfold opOf;rw[Option.map_eq_none_iff,List.find?_eq_none];intro y hy;simpa using h y hy
theorem str_key (s:Bytes) (hs:s.length<=maxLen):keyOf prog 9 (.string ⟨s.toArray⟩)=some (.string s):=
 keyOf_string_mk (s:=⟨s.toArray⟩) underlying9 (by show s.toArray.size<=maxLen;simpa using hs)
theorem Og:∀y∈opTab,y.1.length<=3:=by decide+kernel
theorem Su {es:Array MapEntry} {clock:Nat} (E:OpEntries es clock) (s:Bytes) (hs:s.length<=maxLen) (w:World):
 ((Instr.findKey 9 (.string ⟨s.toArray⟩) es.toList).run prog w=.ok none w/\opOf s=none) \/
 ∃j p,(Instr.findKey 9 (.string ⟨s.toArray⟩) es.toList).run prog w=.ok (some (j,.agg #[.int .i64 p.1,.int .i64 p.2])) w/\opOf s=some p:=by
 have hinj:∀{a b:Bytes},(Value.string ⟨a.toArray⟩)=.string ⟨b.toArray⟩->a=b:=fun{a b} h=>by simpa using h
 rcases Oj.find w (str_key s hs) es.toList (fun x hx=>by
  obtain⟨y,hy,e1,_⟩:=E.mem x hx;exact⟨_,by rw[e1];exact str_key y.1 (Nat.le_trans (Og y hy) (by decide))⟩)with⟨h1,h2⟩|⟨j,e,h1,h2,h3⟩
 ·refine .inl ⟨h1,U2 fun y hy e=>?_⟩;obtain⟨x,hx,ex⟩:=E.all y hy;exact h2 x hx (by rw[ex,e])
 ·obtain⟨y,hy,e1,e2⟩:=E.mem e (List.mem_of_getElem? h2);have:y.1=s:=hinj (e1.symm.trans h3);refine .inr ⟨j,y.2,by rw[h1,e2],?_⟩;rw[<- this];exact Xs hy
theorem Sf (w:World):(zeroValue 246).run prog w=.ok (.agg #[.int .i64 0,.int .i64 0]) w:=by kernel_rfl
theorem Mx {mb:Nat} {es:Array MapEntry} {clock:Nat} {w:World} (hb:w.heap[mb]?=some (.map es clock)) (E:OpEntries es clock) (s:Bytes) (hs:s.length<=maxLen):
 (Instr.lookup 244 (.map (some mb)) (.string ⟨s.toArray⟩) true).run prog w=.ok (.tuple #[.agg #[.int .i64 (opPair s).1,.int .i64 (opPair s).2],.bool (opOf s).isSome]) w:=by
 unfold opPair
 rcases Su E s hs w with⟨h1,h2⟩|⟨j,p,h1,h2⟩
 ·rw[h2];simp[Instr.lookup,run_underlying underlying244,MapKept.run_getObj_map hb,Oj.check w _ (str_key s hs),h1,Sf,Result.andThen]
 ·rw[h2];simp[Instr.lookup,run_underlying underlying244,MapKept.run_getObj_map hb,Oj.check w _ (str_key s hs),h1,Result.andThen]
theorem U0 {mb:Nat} {es:Array MapEntry} {clock:Nat} {w:World} (hb:w.heap[mb]?=some (.map es clock)) (E:OpEntries es clock) (s:Bytes) (hs:s.length<=maxLen):
 (Instr.lookup 244 (.map (some mb)) (.string ⟨s.toArray⟩) false).run prog w=.ok (.agg #[.int .i64 (opPair s).1,.int .i64 (opPair s).2]) w:=by
 unfold opPair
 rcases Su E s hs w with⟨h1,h2⟩|⟨j,p,h1,h2⟩
 ·rw[h2];simp[Instr.lookup,run_underlying underlying244,MapKept.run_getObj_map hb,Oj.check w _ (str_key s hs),h1,Sf,Result.andThen]
 ·rw[h2];simp[Instr.lookup,run_underlying underlying244,MapKept.run_getObj_map hb,Oj.check w _ (str_key s hs),h1,Result.andThen]
abbrev En (n:FuncId):Prop:=∀args w,(callFunc n args).run prog w=.ok (.enter n args) w
end Go.Proofs.YtjmmbebkbkgefaaGreatDoor
namespace Go.Proofs.YtjmmbebkbkgefaaGreatDoor
open Go.RowKit Go.Sort Tryz
structure Psr (w:World) (pb:Nat) (sz:Int) (l:List Tok):Prop where
 env:Env pb w
 blk:∃v,w.heap[pb]?=some (.cells #[v,.int .i64 sz] 115 (0,0))/\SlIn (·<pb) w v l.length (tkVals l)
 fine:∀t∈l,0<=t.n/\t.n<=549755813888/\t.s.length<=4000
 few:l.length<=4000
theorem Fm {l:List Tok} (h:0<l.length):tkVals l≠[]:=by
 cases l with
 | nil=>simp at h
 | cons t l=>simp[tkVals,Tok.cells]
theorem Psr.kept {w w':World} {pb:Nat} {sz:Int} {l:List Tok} (h:Psr w pb sz l) (hb:Below w.heap.size w w'):Psr w' pb sz l:=by
 obtain⟨v,h1,h2⟩:=h.blk;exact⟨h.env.kept hb,⟨v,hb.blk_kept h1,h2.kept hb⟩,h.fine,h.few⟩
theorem Psr.lt {w:World} {pb:Nat} {sz:Int} {l:List Tok} (h:Psr w pb sz l):pb<w.heap.size:=by
 obtain⟨v,h1,_⟩:=h.blk;exact(Array.getElem?_eq_some_iff.1 h1).1
theorem Psr.turned {M:Nat->Prop} {w w':World} {pb:Nat} {sz:Int} {l:List Tok} (h:Psr w pb sz l) (ht:Turn M w w') (hM:∀k,M k->pb<k):Psr w' pb sz l:=by
 obtain⟨v,h1,h2⟩:=h.blk;refine⟨h.env.turned ht (fun k hk=>Nat.le_of_lt (hM k hk)),⟨v,?_,h2.turned ht (fun b hb hm=>?_) Fm⟩,h.fine,h.few⟩
 ·rw[ht.block pb h.lt (fun hm=>Nat.lt_irrefl _ (hM _ hm))];exact h1
 ·have h3:=hM b hm;have h4:b<pb:=hb;omega
theorem Psr.nil {w:World} {pb:Nat} {sz:Int} (h:Psr w pb sz []):∃a cap,w.heap[pb]?=some (.cells #[.slice a 0 cap,.int .i64 sz] 115 (0,0)):=by
 obtain⟨v,h1,a,cap,rfl,_⟩:=h.blk;exact⟨a,cap,h1⟩
structure Head (w:World) (pb:Nat) (sz:Int) (t:Tok) (r:List Tok) (b o cap:Nat):Prop where
 blk:w.heap[pb]?=some (.cells #[.slice (some ⟨b,o,none⟩) (r.length+1) cap,.int .i64 sz] 115 (0,0))
 cap1:r.length+1<=cap
 lt:b<pb
 c0:w.cell? ⟨b,o,none⟩=some (.int .i64 t.kind)
 c1:w.cell? ⟨b,o+1,none⟩=some (.int .i64 t.at_)
 c2:w.cell? ⟨b,o+2,none⟩=some (.string ⟨t.s.toArray⟩)
 c3:w.cell? ⟨b,o+3,none⟩=some (.int .i64 t.n)
 rest:CellsAt w b (o+4) (tkVals r)
theorem Psr.head {w:World} {pb:Nat} {sz:Int} {t:Tok} {r:List Tok} (h:Psr w pb sz (t::r)):∃b o cap,Head w pb sz t r b o cap:=by
 obtain⟨v,h1,a,cap,rfl,hc,hcl⟩:=h.blk;obtain⟨b,o,rfl,hlt,hat⟩:=hcl (by simp);refine⟨b,o,cap,h1,hc,hlt,hat 0 _ rfl,hat 1 _ rfl,hat 2 _ rfl,hat 3 _ rfl,fun j v hv=>?_⟩;have:=hat (j+4) v (by simpa[tkVals,Tok.cells]using hv);rw[Nat.add_comm j 4,<- Nat.add_assoc]at this;exact this
theorem Psr.step {w w':World} {pb:Nat} {sz:Int} {t:Tok} {r:List Tok} {b o cap c':Nat} {q:Addr} (h:Psr w pb sz (t::r)) (H:Head w pb sz t r b o cap) (ht:Turn (·=pb) w w') (hb:w'.heap[pb]?=some (.cells #[.slice (some q) r.length c',.int .i64 sz] 115 (0,0)))
 (hc:r.length<=c') (hq:0<r.length->q=⟨b,o+4,none⟩):Psr w' pb sz r:=by
 refine⟨h.env.turned ht (fun k hk=>by rw[hk];exact Nat.le_refl _),⟨_,hb,some q,c',rfl,hc,fun h0=>⟨b,o+4,by rw[hq h0],H.lt,H.rest.same (ht.block b ?_ (fun e=>?_))⟩⟩,fun u hu=>h.fine u (by simp[hu]),by have:=h.few;simp at this;omega⟩
 ·exact H.rest.lt (Fm h0)
 ·have h1:=H.lt;have h2:b=pb:=e;omega
def Stops (pb:Nat) (w:World) (p x:Int) (e:Ending) (w':World):Prop:=e=.panicked [{v:=.iface 72 (.agg #[.int .i64 p,.int .i64 x]),recovered:=false}]/\Turn (·=pb) w w'
theorem D3 (pb:Nat) (sz x:Int) (l:List Tok) (w:World) (h:Psr w pb sz l):Calls prog 54 #[.pointer (some ⟨pb,0,none⟩),.int .i64 x] w (Stops pb w (headAt sz l) x):=by
 have hlb:=h.lt
 cases l with
 | nil=>
  obtain⟨a,cap,h1⟩:=h.nil;have F:=Am h1 [.slice a 0 cap,.int .i64 sz] 0 (fun j=>by simp);simp only[cellFacts,and_true]at F;clear h h1;go_enter func54,ntmps54;go_wp2_with fail;exact⟨rfl,rfl,Turn.refl _ _⟩
 | cons t r=>
  obtain⟨b,o,cap,H⟩:=h.head;have F:=Am H.blk [.slice (some ⟨b,o,none⟩) (r.length+1) cap,.int .i64 sz] 0 (fun j=>by simp);simp only[cellFacts,and_true]at F;have t1:=H.c1;have hc1:1<=cap:=by have:=H.cap1;omega
  clear H h;go_enter func54,ntmps54;go_wp2_with fail;exact⟨rfl,rfl,Turn.refl _ _⟩
def NextRes (pb:Nat) (sz:Int) (k:Int) (l:List Tok) (w:World) (e:Ending) (w':World):Prop:=match nextR k l with
 | some (t,r)=>e=.returned (.tuple #[.agg #[.int .i64 t.kind,.int .i64 t.at_,.string ⟨t.s.toArray⟩,.int .i64 t.n],.bool true])/\Psr w' pb sz r/\Turn (·=pb) w w'
 | none=>e=.returned (.tuple #[.agg #[.int .i64 0,.int .i64 0,.string ⟨#[]⟩,.int .i64 0],.bool false])/\Below w.heap.size w w'
theorem Ka (pb:Nat) (sz k:Int) (l:List Tok) (w:World) (h:Psr w pb sz l):
 Calls prog 178 #[.pointer (some ⟨pb,0,none⟩),.int .i64 k] w (NextRes pb sz k l w):=by
 have hlb:=h.lt
 cases l with
 | nil=>
  obtain⟨a,cap,h1⟩:=h.nil;have F:=Am h1 [.slice a 0 cap,.int .i64 sz] 0 (fun j=>by simp);simp only[cellFacts,and_true]at F;clear h h1;unfold NextRes;simp only[nextR];go_enter func178,ntmps178;go_wp2_with fail;go_returns;exact⟨rfl,by go_grown⟩
 | cons t r=>
  obtain⟨b,o,cap,H⟩:=h.head;have F:=Am H.blk [.slice (some ⟨b,o,none⟩) (r.length+1) cap,.int .i64 sz] 0 (fun j=>by simp);simp only[cellFacts,and_true]at F;have HH:=Lib.hid H;have HP:=Lib.hid h;obtain⟨tk,ta,ts,tn⟩:=t;have t0:=H.c0;have t1:=H.c1;have t2:=H.c2;have t3:=H.c3;have hc1:=H.cap1;have hlt:=H.lt;have hne:b≠pb:=by omega
  have hne2:pb≠b:=by omega
  have hl2:b<w.heap.size:=by omega
  have S0:Hid (StM (·=pb) w w [(pb,#[.slice (some ⟨b,o,none⟩) (r.length+1) cap,.int .i64 sz],115)]):=StM.one rfl H.blk;have fin:∀c' q x y,r.length<=c'->(0<r.length->q=⟨b,o+4,none⟩)->Hid (Psr (((w.setCell ⟨pb,0,none⟩ (.slice (some q) r.length c')).alloc x).alloc y) pb sz r/\Turn (·=pb) w (((w.setCell ⟨pb,0,none⟩ (.slice (some q) r.length c')).alloc x).alloc y)):=fun c' q x y hc' hq=>by
   have S1:=StM.set 0 (o:=0) (v:=.slice (some q) r.length c') S0.out rfl;have S2:=(S1.kept ((Below.refl _ _).alloc (Nat.le_refl _) x));have S3:=(S2.kept ((Below.refl _ _).alloc (Nat.le_refl _) y));exact⟨HP.out.step HH.out S3.turn (S3.blk 0 rfl) hc' hq,S3.turn⟩
  clear H h S0;unfold NextRes;simp only[nextR];by_cases hk:tk=k
  ·subst hk;rw[if_pos rfl];simp only;by_cases hcap:cap=1
   ·have hr:r.length=0:=by omega
    rw[hr]at fin;go_enter func178,ntmps178;go_wp2_with fail;go_returns;exact⟨rfl,fin _ _ _ _ (by omega) (fun h=>absurd h (by omega))⟩
   ·go_enter func178,ntmps178;go_wp2_with fail;go_returns;exact⟨rfl,fin _ _ _ _ (by omega) (fun _=>rfl)⟩
  ·rw[if_neg hk];simp only;have k1:(tk != k)=true:=by simpa using hk
   clear fin;go_enter func178,ntmps178;go_wp2_with fail;go_returns;exact⟨rfl,by go_grown⟩
def seesIn (ws:List Bytes):List Tok->Bool
 | []=>false
 | t::_=>(decide (t.kind=1)||decide (t.kind=5))&&ws.contains t.s
def SeesRes (ws:List Bytes) (l:List Tok) (w:World) (e:Ending) (w':World):Prop:=e=.returned (.tuple #[.string ⟨(seesWord l).toArray⟩,.bool (seesIn ws l)])/\Below w.heap.size w w'
theorem Gg (ws:List Bytes) (s:Bytes):Lib.containsS (ws.map fun w=>(⟨w.toArray⟩:ByteArray)) ⟨s.toArray⟩=ws.contains s:=by
 rw[Bool.eq_iff_iff,Lib.containsS_iff];simp
theorem K9 (ws:List Bytes) (s:Bytes) (v:Value) (w:World) (hv:SlAt w v ws.length (strVals ws)) (hl:ws.length<=1000000):
 Calls prog 40 #[v,.string ⟨s.toArray⟩] w fun e w'=>e=.returned (.bool (ws.contains s))/\Laid w w':=by
 obtain⟨a,cap,rfl,hc,hcl⟩:=hv
 by_cases h0:0<ws.length
 ·obtain⟨b,o,rfl,hat⟩:=hcl h0;refine(Tryz.slices_Contains_string b o ws.length cap (ws.map fun w=>(⟨w.toArray⟩:ByteArray)) ⟨s.toArray⟩ w (by simp) (by omega) (fun j hj=>?_)).mono ?_
  ·refine hat j _ ?_;simp only[List.length_map]at hj;simp[strVals,strV,hj]
  ·rintro e w' ⟨rfl,rfl⟩;refine⟨?_,Below.refl _ _⟩;rw[List.take_of_length_le (by simp),Gg]
 ·have:ws=[]:=List.eq_nil_of_length_eq_zero (by omega);subst this;refine(Tryz.slices_Contains_string_empty a cap ⟨s.toArray⟩ w).mono ?_;rintro e w' ⟨rfl,rfl⟩;exact⟨rfl,Below.refl _ _⟩
theorem Ny (ws:List Bytes) (v:Value) (pb:Nat) (sz:Int) (l:List Tok) (w:World) (h:Psr w pb sz l) (hv:SlAt w v ws.length (strVals ws)) (hl:ws.length<=1000000):
 Calls prog 176 #[.pointer (some ⟨pb,0,none⟩),v] w (SeesRes ws l w):=by
 have hlb:=h.lt
 cases l with
 | nil=>
  obtain⟨a,cap,h1⟩:=h.nil;have F:=Am h1 [.slice a 0 cap,.int .i64 sz] 0 (fun j=>by simp);simp only[cellFacts,and_true]at F;clear h h1 hv;go_enter func176,ntmps176;go_wp2_with fail;go_returns;exact⟨rfl,Below.refl _ _⟩
 | cons t r=>
  obtain⟨b,o,cap,H⟩:=h.head;have F:=Am H.blk [.slice (some ⟨b,o,none⟩) (r.length+1) cap,.int .i64 sz] 0 (fun j=>by simp);simp only[cellFacts,and_true]at F;obtain⟨tk,ta,ts,tn⟩:=t;have t0:=H.c0;have t2:=H.c2;have hc1:1<=cap:=by have:=H.cap1;omega
  have y0:∀(d:Nat) (os:Array Obj),(grow (redrawn w d) os).cell? ⟨pb,0,none⟩=some (.slice (some ⟨b,o,none⟩) (r.length+1) cap):=fun d os=>(below_regrown w d os).cell_kept F.1.1;have y1:∀(d:Nat) (os:Array Obj),(grow (redrawn w d) os).cell? ⟨b,o+2,none⟩=some (.string ⟨ts.toArray⟩):=fun d os=>(below_regrown w d os).cell_kept t2;have C:Hid (∀(d:Nat) (os:Array Obj),Calls prog 40 #[v,.string ⟨ts.toArray⟩] (grow (redrawn w d) os) fun e w'=>e=.returned (.bool (ws.contains ts))/\Laid (grow (redrawn w d) os) w'):=fun d os=>K9 ws ts v _ (hv.kept (below_regrown w d os)) hl;clear h H hv;unfold SeesRes;simp only[seesWord,seesIn];by_cases hk:tk=1\/tk=5
  ·rw[if_pos hk,show(decide (tk=1)||decide (tk=5))=true by simpa using hk,Bool.true_and];generalize ws.contains ts=bb at *;have k1:(tk != 1&&tk != 5)=false:=by rcases hk with rfl|rfl<;>rfl
   have k2:¬(tk≠1/\tk≠5):=by omega
   rcases hk with rfl|rfl
   all_goals
    go_enter func176,ntmps176
    go_wp2_with fail
    refine Ab 18 [(0,false),(1,false),(2,false),(3,false),(4,false),(5,false),(6,false),(7,false),(8,false),(9,false),(10,false),(11,false),(12,false),(13,false),(14,false),(15,false),(16,false),(17,false)] (by kernel_rfl) (by kernel_rfl) ?_
    repeat(refine An rfl (fun K hK=>?_);go_simp;first|(refine hK _ ?_;clear hK K)|(apply Exists.intro;refine⟨fun _=>?_,hK _ ?_⟩;(exact C.out _ _);clear hK K))
    refine A3 ?_
    intro w2 hb2 _
    have HB2:=Lib.hid hb2
    clear hb2 y0 y1 C
    go_wp2_with fail
    go_returns
    exact⟨rfl,HB2.out⟩
  ·rw[if_neg hk,show(decide (tk=1)||decide (tk=5))=false by simpa using hk,Bool.false_and];have k1:(tk != 1)=true:=by simp;omega
   have k2:(tk != 5)=true:=by simp;omega
   clear y0 y1 C;go_enter func176,ntmps176;go_wp2_with fail;go_returns;exact⟨rfl,Below.refl _ _⟩
theorem W5 {w:World} {nb cap:Nat} {s:Bytes} {t:TypeId} {fr:Nat×Nat} (h:w.heap[nb]?=some (.cells #[.string ⟨s.toArray⟩] t fr)) (hc:1<=cap):SlAt w (.slice (some ⟨nb,0,none⟩) 1 cap) [s].length (strVals [s]):=by
 refine⟨_,cap,rfl,hc,fun _=>⟨nb,0,rfl,fun j u hu=>?_⟩⟩
 cases j with
 | zero=>simp only[strVals,strV,List.map_cons,List.map_nil,List.getElem?_cons_zero,Option.some.injEq]at hu;subst hu;simp[World.cell?,h]
 | succ j=>simp[strVals]at hu
def TakesRes (pb:Nat) (sz:Int) (s:Bytes) (l:List Tok) (w:World) (e:Ending) (w':World):Prop:=match tk s l with
 | some r=>e=.returned (.bool true)/\Psr w' pb sz r/\Turn (·=pb) w w'
 | none=>e=.returned (.bool false)/\Below w.heap.size w w'
theorem Zi (s:Bytes) (l:List Tok):seesIn [s] l=(tk s l).isSome:=by
 cases l with
 | nil=>rfl
 | cons t r=>
  simp only[seesIn,tk,List.contains_cons,List.contains_nil,Bool.or_false];by_cases hk:t.kind=1\/t.kind=5
  ·have e1:(decide (t.kind=1)||decide (t.kind=5))=true:=by simpa using hk
   rw[e1,Bool.true_and];by_cases hs:t.s=s
   ·rw[if_pos ⟨hk,hs⟩];simp[hs]
   ·rw[if_neg (fun h=>hs h.2)];simpa using hs
  ·have e1:(decide (t.kind=1)||decide (t.kind=5))=false:=by simpa using hk
   rw[e1,Bool.false_and,if_neg (fun h=>hk h.1)];rfl
theorem Wx (s:Bytes) (v:Value) (pb:Nat) (sz:Int) (l:List Tok) (w:World) (h:Psr w pb sz l) (hs:SlAt w v [s].length (strVals [s])):
 Calls prog 109 #[.pointer (some ⟨pb,0,none⟩),v] w (TakesRes pb sz s l w):=by
 have C:=Lib.hid (Ny [s] v pb sz l w h hs (by simp))
 unfold SeesRes at C
 rw[Zi]at C
 have HP:=Lib.hid h
 clear h hs
 unfold TakesRes
 cases htk:tk s l with
 | none=>
  rw[htk]at C;simp only;generalize seesWord l=sw at *;go_enter func109,ntmps109;go_wp2_with fail;refine Calls.mono C.out ?_;rintro e w1 ⟨rfl,hb1⟩;have HB1:=Lib.hid hb1;clear hb1;go_wp2_with fail;go_returns;exact⟨rfl,HB1.out⟩
 | some r=>
  rw[htk]at C;simp only;obtain⟨t,rfl⟩:∃t,l=t::r:=by
   cases l with
   | nil=>cases htk
   | cons t q=>
    simp only[tk]at htk;split at htk
    ·cases htk;exact⟨t,rfl⟩
    ·cases htk
  clear htk;generalize seesWord (t::r)=sw at *;go_enter func109,ntmps109;go_wp2_with fail;refine Calls.mono C.out ?_;rintro e w1 ⟨rfl,hb1⟩;have HP1:=Lib.hid (HP.out.kept hb1);obtain⟨b,o,cap,H⟩:=HP1.out.head;have HH:=Lib.hid H;have HB1:=Lib.hid hb1;have hlb:=HP1.out.lt;have F:=Am H.blk [.slice (some ⟨b,o,none⟩) (r.length+1) cap,.int .i64 sz] 0 (fun j=>by simp);simp only[cellFacts,and_true]at F;have hc1:=H.cap1;have S0:Hid (StM (·=pb) w1 w1 [(pb,#[.slice (some ⟨b,o,none⟩) (r.length+1) cap,.int .i64 sz],115)]):=StM.one rfl H.blk;have fin:∀c' q,r.length<=c'->(0<r.length->q=⟨b,o+4,none⟩)->Hid (Psr (w1.setCell ⟨pb,0,none⟩ (.slice (some q) r.length c')) pb sz r/\Turn (·=pb) w (w1.setCell ⟨pb,0,none⟩ (.slice (some q) r.length c'))):=fun c' q hc' hq=>by
   have S1:=StM.set 0 (o:=0) (v:=.slice (some q) r.length c') S0.out rfl;exact⟨HP1.out.step HH.out S1.turn (S1.blk 0 rfl) hc' hq,(Turn.of_below HB1.out).trans S1.turn (fun _ _ h=>h)⟩
  clear H S0 hb1 C;by_cases hcap:cap=1
  ·have hr:r.length=0:=by omega
   rw[hr]at fin;go_wp2_with fail;go_returns;exact⟨rfl,fin _ _ (by omega) (fun h=>absurd h (by omega))⟩
  ·go_wp2_with fail;go_returns;exact⟨rfl,fin _ _ (by omega) (fun _=>rfl)⟩
theorem Lh (s:Bytes) (pb nb cap:Nat) (sz:Int) (l:List Tok) (w:World) (h:Psr w pb sz l) {t:TypeId} (hs:w.heap[nb]?=some (.cells #[.string ⟨s.toArray⟩] t (0,0))) (hc:1<=cap):
 Calls prog 109 #[.pointer (some ⟨pb,0,none⟩),.slice (some ⟨nb,0,none⟩) 1 cap] w (TakesRes pb sz s l w):=Wx s _ pb sz l w h (W5 hs hc)
def Post {α:Type} (pb:Nat) (sz:Int) (Rep:World->α->Value->Prop) (x:Res α) (w:World) (e:Ending) (w':World):Prop:=match x with
 | .ok a l=>∃v,e=.returned v/\Rep w' a v/\Psr w' pb sz l/\Turn (·=pb) w w'
 | .err p x=>Stops pb w p x e w'
def RUnit (_:World) (_:Unit) (v:Value):Prop:=v=.tuple #[]
def RStr (_:World) (s:Bytes) (v:Value):Prop:=v=.string ⟨s.toArray⟩
def RInt (_:World) (n:Int) (v:Value):Prop:=v=.int .i64 n
theorem Cp (pb:Nat) (sz:Int) (l:List Tok) (w:World) (h:Psr w pb sz l):Calls prog 112 #[.pointer (some ⟨pb,0,none⟩)] w (Post pb sz RStr (nameR sz l) w):=by
 have C:=Lib.hid (Ka pb sz 2 l w h);have HP:=Lib.hid h;unfold NextRes at C;unfold nameR;clear h
 cases hn:nextR 2 l with
 | none=>
  rw[hn]at C;go_enter func112,ntmps112;go_wp2_with fail;refine Calls.mono C.out ?_;rintro e w1 ⟨rfl,hb1⟩;have C2:=Lib.hid (fun x=>D3 pb sz 380 l _ ((HP.out.kept hb1).kept ((Below.refl w1.heap.size w1).alloc (Nat.le_refl _) x)));have HT:=Lib.hid (fun x=>Turn.of_below (M:=(·=pb)) (hb1.step ((Below.refl w1.heap.size w1).alloc (Nat.le_refl _) x)));clear hb1;go_wp2_with fail;refine Calls.mono (C2.out _) ?_;rintro e w2 ⟨rfl,ht2⟩;exact⟨rfl,rfl,(HT.out _).trans ht2 (fun _ _ h=>h)⟩
 | some p=>
  obtain⟨t,r⟩:=p;rw[hn]at C;simp only at C ⊢;go_enter func112,ntmps112;go_wp2_with fail;refine Calls.mono C.out ?_;rintro e w1 ⟨rfl,hp1,ht1⟩;have HP1:=Lib.hid (fun x=>hp1.kept ((Below.refl w1.heap.size w1).alloc (Nat.le_refl _) x));have HT:=Lib.hid (fun x=>ht1.step ((Below.refl w1.heap.size w1).alloc (Nat.le_refl _) x));clear hp1 ht1;go_wp2_with fail;go_returns;exact⟨_,rfl,rfl,HP1.out _,HT.out _⟩
theorem Ok (pb:Nat) (sz:Int) (l:List Tok) (w:World) (h:Psr w pb sz l) (hbig:bigHead l=false):Calls prog 179 #[.pointer (some ⟨pb,0,none⟩)] w (Post pb sz RInt (numberR sz l) w):=by
 have C:=Lib.hid (Ka pb sz 3 l w h);have HP:=Lib.hid h;unfold NextRes at C;unfold numberR;rw[hbig];simp only[Bool.false_eq_true,if_false];have hlb:=h.lt;have fin:∀c,(c=true->Hid (∀e w1,NextRes pb sz 3 l w e w1->True)):=fun _ _=>fun _ _ _=>trivial;clear fin;have go:∀(K:Ending->World->Prop),(∀e w1,(match nextR 3 l with
  | some (t,r)=>e=.returned (.tuple #[.agg #[.int .i64 t.kind,.int .i64 t.at_,.string ⟨t.s.toArray⟩,.int .i64 t.n],.bool true])/\Psr w1 pb sz r/\Turn (·=pb) w w1
  | none=>e=.returned (.tuple #[.agg #[.int .i64 0,.int .i64 0,.string ⟨#[]⟩,.int .i64 0],.bool false])/\Below w.heap.size w w1)->K e w1)->Calls prog 178 #[.pointer (some ⟨pb,0,none⟩),.int .i64 3] w K:=fun K hK=>Calls.mono C.out hK
 have G:=Lib.hid go;clear go C
 cases l with
 | nil=>
  obtain⟨a,cap,h1⟩:=h.nil;have F:=Am h1 [.slice a 0 cap,.int .i64 sz] 0 (fun j=>by simp);simp only[cellFacts,and_true]at F;clear h h1 hbig;go_enter func179,ntmps179;go_wp2_with fail;refine G.out _ ?_;rintro e w1 ⟨rfl,hb1⟩;have C2:=Lib.hid (fun x=>D3 pb sz 380 [] _ ((HP.out.kept hb1).kept ((Below.refl w1.heap.size w1).alloc (Nat.le_refl _) x)));have HT:=Lib.hid (fun x=>Turn.of_below (M:=(·=pb)) (hb1.step ((Below.refl w1.heap.size w1).alloc (Nat.le_refl _) x)));clear hb1;go_wp2_with fail;refine Calls.mono (C2.out _) ?_;rintro e w2 ⟨rfl,ht2⟩;exact⟨rfl,rfl,(HT.out _).trans ht2 (fun _ _ h=>h)⟩
 | cons t r=>
  obtain⟨b,o,cap,H⟩:=h.head;have F:=Am H.blk [.slice (some ⟨b,o,none⟩) (r.length+1) cap,.int .i64 sz] 0 (fun j=>by simp);simp only[cellFacts,and_true]at F;obtain⟨tk,ta,ts,tn⟩:=t;have t0:=H.c0;have t3:=H.c3;have hc1:1<=cap:=by have:=H.cap1;omega
  simp only[bigHead,Bool.and_eq_false_iff,decide_eq_false_iff_not]at hbig;clear h H;by_cases hk:tk=3
  ·subst hk;simp only[nextR,if_true]at G ⊢;have hb:decide (549755813887<tn)=false:=by simp;omega
   have hb2:¬549755813887<tn:=by omega
   clear hbig;go_enter func179,ntmps179;go_wp2_with fail;refine G.out _ ?_;rintro e w1 ⟨rfl,hp1,ht1⟩;have HP1:=Lib.hid (fun x=>hp1.kept ((Below.refl w1.heap.size w1).alloc (Nat.le_refl _) x));have HT:=Lib.hid (fun x=>ht1.step ((Below.refl w1.heap.size w1).alloc (Nat.le_refl _) x));clear hp1 ht1;go_wp2_with fail;go_returns;exact⟨_,rfl,rfl,HP1.out _,HT.out _⟩
  ·simp only[nextR,if_neg hk]at G ⊢;have k1:(tk==3)=false:=by simpa using hk
   clear hbig;go_enter func179,ntmps179;go_wp2_with fail;refine G.out _ ?_;rintro e w1 ⟨rfl,hb1⟩;have C2:=Lib.hid (fun x=>D3 pb sz 380 (⟨tk,ta,ts,tn⟩::r) _ ((HP.out.kept hb1).kept ((Below.refl w1.heap.size w1).alloc (Nat.le_refl _) x)));have HT:=Lib.hid (fun x=>Turn.of_below (M:=(·=pb)) (hb1.step ((Below.refl w1.heap.size w1).alloc (Nat.le_refl _) x)));clear hb1;go_wp2_with fail;refine Calls.mono (C2.out _) ?_;rintro e w2 ⟨rfl,ht2⟩;exact⟨rfl,rfl,(HT.out _).trans ht2 (fun _ _ h=>h)⟩
theorem Gn (pb:Nat) (sz:Int) (l:List Tok) (w:World) (h:Psr w pb sz l):Calls prog 179 #[.pointer (some ⟨pb,0,none⟩)] w (Post pb sz RInt (numberR sz l) w):=by
 cases hbig:bigHead l with
 | false=>exact Ok pb sz l w h hbig
 | true=>
  unfold numberR;rw[hbig,if_pos rfl]
  cases l with
  | nil=>cases hbig
  | cons t r=>
   obtain⟨b,o,cap,H⟩:=h.head;have C:=Lib.hid (D3 pb sz 381 _ w h);have hlb:=h.lt;have F:=Am H.blk [.slice (some ⟨b,o,none⟩) (r.length+1) cap,.int .i64 sz] 0 (fun j=>by simp);simp only[cellFacts,and_true]at F;obtain⟨tk,ta,ts,tn⟩:=t;have t0:=H.c0;have t3:=H.c3;have hc1:1<=cap:=by have:=H.cap1;omega
   simp only[bigHead,Bool.and_eq_true,decide_eq_true_eq]at hbig;obtain⟨rfl,hbig⟩:=hbig;have hb:decide (549755813887<tn)=true:=by simpa using hbig
   clear h H;go_enter func179,ntmps179;go_wp2_with fail;refine Calls.mono C.out ?_;rintro e w2 ⟨rfl,ht2⟩;exact⟨rfl,rfl,ht2⟩
theorem Tq (pb:Nat) (sz:Int) (ws:List Bytes) (v:Value) (l:List Tok) (w:World) (h:Psr w pb sz l) (hv:SlIn (·≠pb) w v ws.length (strVals ws)) (hl:ws.length<=1000000):
 Calls prog 111 #[.pointer (some ⟨pb,0,none⟩),v] w (Post pb sz RUnit (wantsR sz ws l) w):=by
 obtain⟨a,cap,rfl,hcap,hcells⟩:=hv
 have HC:=Lib.hid hcells
 have HP:=Lib.hid h
 clear hcells h
 have tvn:∀{k:Nat} {s:Bytes},ws[k]?=some s->(strVals ws)[k]?=some (.string ⟨s.toArray⟩):=fun{k s} hk=>by simp[strVals,strV,hk]
 go_enter func111,ntmps111
 go_wp2_with fail
 go_loopw [8] (fun i wr=>∃(k:Nat) (lr:List Tok),k<=ws.length/\i=.int .i64 k/\Hid (wantsR sz ws l=wantsR sz (ws.drop k) lr)/\Hid (Psr wr pb sz lr)/\Hid (Turn (·=pb) w wr)) (fun i _=>ws.length - (intOf i).toNat)
 case atStart=>exact⟨0,l,by omega,rfl,rfl,HP.out,Turn.refl _ _⟩
 case round=>
  obtain⟨k,lr,hk,rfl,HK,HPr,HT⟩:=hrel;by_cases hlt:k<ws.length
  ·obtain⟨b,o,rfl,hne,hat⟩:=HC.out (by omega);obtain⟨s,hs⟩:∃s,ws[k]?=some s:=⟨ws[k],by simp[hlt]⟩;have x0:wr.cell? ⟨b,o+k,none⟩=some (.string ⟨s.toArray⟩):=(hat.same (HT.out.block b (hat.lt (by intro e;have:=congrArg List.length e;rw[strVals,List.length_map,List.length_nil]at this;omega)) hne)) k _ (tvn hs);have hst:wantsR sz (ws.drop k) lr=match tk s lr with
     | some r=>wantsR sz (ws.drop (k+1)) r
     | none=>stopR sz lr 380:=by
    obtain⟨h1,rfl⟩:=List.getElem?_eq_some_iff.1 hs
    rw[List.drop_eq_getElem_cons h1,wantsR];rfl
   have hnew:∀os,(wr.alloc os).heap[wr.heap.size]?=some os:=fun os=>World.alloc_heap_new wr os;have C1:=Lib.hid (Lh s pb wr.heap.size 1 sz lr (wr.alloc (.cells #[.string ⟨s.toArray⟩] 9)) (HPr.out.kept ((Below.refl _ _).alloc (Nat.le_refl _) _)) (World.alloc_heap_new wr _) (Nat.le_refl _));unfold TakesRes at C1;have HST:Hid (wantsR sz ws l=_):=HK.out.trans hst;have HT1:Hid (Turn (·=pb) w (wr.alloc (.cells #[.string ⟨s.toArray⟩] 9))):=HT.out.step ((Below.refl _ _).alloc (Nat.le_refl _) _);clear hst HK hs hat hnew
   cases htk:tk s lr with
   | none=>
    rw[htk]at C1 HST;have HR:Hid (wantsR sz ws l=stopR sz lr 380):=HST.out;clear HST htk;go_wp2_with fail;refine Calls.mono C1.out ?_;rintro e w1 ⟨rfl,hb1⟩;have C2:=Lib.hid (D3 pb sz 380 lr w1 ((HPr.out.kept ((Below.refl _ _).alloc (Nat.le_refl _) _)).kept hb1));have HT2:=Lib.hid (HT1.out.step hb1);clear hb1 C1 x0;go_wp2_with fail;refine Calls.mono C2.out ?_;rintro e w2 ⟨rfl,ht2⟩;refine⟨rfl,?_⟩;rw[HR.out];exact⟨rfl,HT2.out.trans ht2 (fun _ _ h=>h)⟩
   | some r=>
    rw[htk]at C1 HST;have HR:Hid (wantsR sz ws l=wantsR sz (ws.drop (k+1)) r):=HST.out;clear HST htk;go_wp2_with fail;refine Calls.mono C1.out ?_;rintro e w1 ⟨rfl,hp1,ht1⟩;have HP1:=Lib.hid hp1;have HT2:=Lib.hid (HT1.out.trans ht1 (fun _ _ h=>h));clear hp1 ht1 C1 x0;go_wp2_with fail;go_roundw
    case rel=>exact⟨k+1,r,by omega,rfl,HR.out,HP1.out,HT2.out⟩
    case measure=>simp[intOf];omega
  ·obtain rfl:k=ws.length:=by omega
   go_wp2_with fail;go_returns;rw[HK.out,List.drop_length];exact⟨_,rfl,rfl,HPr.out,HT.out⟩
end Go.Proofs.YtjmmbebkbkgefaaGreatDoor
namespace Go.Proofs.YtjmmbebkbkgefaaGreatDoor
open Go.RowKit Go.Sort Tryz
structure PFr (pb:Nat) (sz:Int) (w0 w:World) (L:List Blk) (l:List Tok):Prop where
 lt:pb<w0.heap.size
 st:StM (·=pb) w0 w L
 own:∀x∈L,w0.heap.size<=x.1
 psr:Psr w pb sz l
variable {pb:Nat} {sz:Int} {w0 w w':World} {L:List Blk} {l:List Tok}
theorem PFr.start (h:Psr w pb sz l):PFr pb sz w w [] l:=⟨h.lt,StM.start _ _,by simp,h⟩
theorem PFr.turn (h:PFr pb sz w0 w L l):Turn (·=pb) w0 w:=h.st.turn
theorem PFr.facts (h:PFr pb sz w0 w L l):St.Facts w L:=h.st.facts
theorem PFr.size (h:PFr pb sz w0 w L l):w0.heap.size<=w.heap.size:=h.st.turn.size
theorem PFr.kept (h:PFr pb sz w0 w L l) (hb:Below w.heap.size w w'):PFr pb sz w0 w' L l:=⟨h.lt,h.st.kept hb,h.own,h.psr.kept hb⟩
theorem PFr.laid {o:Obj} (h:PFr pb sz w0 w L l):PFr pb sz w0 (w.alloc o) L l:=h.kept ((Below.refl _ _).alloc (Nat.le_refl _) o)
theorem PFr.alloc {cs:Array Value} {t:TypeId} (h:PFr pb sz w0 w L l):PFr pb sz w0 (w.alloc (.cells cs t)) ((w.heap.size,cs,t)::L) l:=
 ⟨h.lt,StM.alloc h.st,fun x hx=>by
  rcases List.mem_cons.1 hx with rfl|hx
  ·exact h.size
  ·exact h.own x hx,h.psr.kept ((Below.refl _ _).alloc (Nat.le_refl _) _)⟩
theorem PFr.blk (h:PFr pb sz w0 w L l) (i:Nat) {b:Nat} {cs:Array Value} {t:TypeId} (hi:L[i]?=some (b,cs,t)):w.heap[b]?=some (.cells cs t (0,0)):=h.st.blk i hi
theorem PFr.ge (h:PFr pb sz w0 w L l) (i:Nat) {b:Nat} {cs:Array Value} {t:TypeId} (hi:L[i]?=some (b,cs,t)):w0.heap.size<=b:=h.own _ (List.mem_of_getElem? hi)
theorem PFr.set (i:Nat) {b o:Nat} {cs:Array Value} {t:TypeId} {v:Value} (h:PFr pb sz w0 w L l) (hi:L[i]?=some (b,cs,t)):PFr pb sz w0 (w.setCell ⟨b,o,none⟩ v) (L.set i (b,cs.setIfInBounds o v,t)) l:=by
 have hge:=h.ge i hi;refine⟨h.lt,StM.set i h.st hi,fun x hx=>?_,h.psr.turned (M:=(·=b)) ((Turn.refl _ w).setCell (.inl rfl)) (fun k hk=>by have:=h.lt;have hk':k=b:=hk;omega)⟩;rcases List.mem_or_eq_of_mem_set hx with hx|rfl
 ·exact h.own x hx
 ·exact hge
theorem PFr.row (i:Nat) {b:Nat} {cs:Array Value} {t:TypeId} (vs:Array Value) (h:PFr pb sz w0 w L l) (hi:L[i]?=some (b,cs,t)):PFr pb sz w0 (w.setRow b vs) (L.set i (b,vs,t)) l:=by
 have hge:=h.ge i hi;refine⟨h.lt,StM.row i vs h.st hi,fun x hx=>?_,h.psr.turned (M:=(·=b)) ((Turn.refl _ w).setRow (.inl rfl)) (fun k hk=>by have:=h.lt;have hk':k=b:=hk;omega)⟩;rcases List.mem_or_eq_of_mem_set hx with hx|rfl
 ·exact h.own x hx
 ·exact hge
theorem PFr.tail {x:Blk} (h:PFr pb sz w0 w (x::L) l):PFr pb sz w0 w L l:=⟨h.lt,h.st.tail,fun y hy=>h.own y (List.mem_cons_of_mem _ hy),h.psr⟩
theorem PFr.went {r:List Tok} (h:PFr pb sz w0 w L l) (ht:Turn (·=pb) w w') (hp:Psr w' pb sz r):PFr pb sz w0 w' L r:=
 ⟨h.lt,h.st.turned ht (fun _ _ h=>h) (fun x hx e=>by have h1:=h.own x hx;have h2:=h.lt;have e':x.1=pb:=e;omega),h.own,hp⟩
theorem PFr.gen {P:Program} {c:Code} {Q:Exit->Act->World->Prop} {a:Act} (h:PFr pb sz w0 w L l) (k:∀W,Hid (PFr pb sz w0 W L l)->Code.wp P c Q a W):Code.wp P c Q a w:=k w h
theorem PFr.genL {P:Program} {ops:Array Oper} {ol:List Oper} {Q:Exit->Act->World->Prop} {a:Act} (h:PFr pb sz w0 w L l) (k:∀W,Hid (PFr pb sz w0 W L l)->wpList P ops Q ol a W):wpList P ops Q ol a w:=k w h
theorem PFr.takes (S:PFr pb sz w0 w L l) (s:Bytes) {nb cap:Nat} {t:TypeId} {K:Ending->World->Prop} (hs:w.heap[nb]?=some (.cells #[.string ⟨s.toArray⟩] t (0,0))) (hc:1<=cap)
 (hyes:∀r w',tk s l=some r->Turn (·=pb) w w'->Hid (PFr pb sz w0 w' L r)->K (.returned (.bool true)) w') (hno:∀w',tk s l=none->Turn (·=pb) w w'->Hid (PFr pb sz w0 w' L l)->K (.returned (.bool false)) w'):
 Calls prog 109 #[.pointer (some ⟨pb,0,none⟩),.slice (some ⟨nb,0,none⟩) 1 cap] w K:=by
 refine Calls.mono (Lh s pb nb cap sz l w S.psr hs hc) ?_
 intro e w' h
 unfold TakesRes at h
 cases htk:tk s l with
 | none=>
  rw[htk]at h;obtain⟨rfl,hb⟩:=h;exact hno w' htk (Turn.of_below hb) (S.kept hb)
 | some r=>
  rw[htk]at h;obtain⟨rfl,hp,ht⟩:=h;exact hyes r w' htk ht (S.went ht hp)
theorem PFr.next (S:PFr pb sz w0 w L l) (k:Int) {K:Ending->World->Prop}
 (hyes:∀t r w',nextR k l=some (t,r)->Turn (·=pb) w w'->Hid (PFr pb sz w0 w' L r)->K (.returned (.tuple #[.agg #[.int .i64 t.kind,.int .i64 t.at_,.string ⟨t.s.toArray⟩,.int .i64 t.n],.bool true])) w')
 (hno:∀w',nextR k l=none->Turn (·=pb) w w'->Hid (PFr pb sz w0 w' L l)->K (.returned (.tuple #[.agg #[.int .i64 0,.int .i64 0,.string ⟨#[]⟩,.int .i64 0],.bool false])) w'):
 Calls prog 178 #[.pointer (some ⟨pb,0,none⟩),.int .i64 k] w K:=by
 refine Calls.mono (Ka pb sz k l w S.psr) ?_
 intro e w' h
 unfold NextRes at h
 cases hn:nextR k l with
 | none=>
  rw[hn]at h;obtain⟨rfl,hb⟩:=h;exact hno w' hn (Turn.of_below hb) (S.kept hb)
 | some p=>
  obtain⟨t,r⟩:=p;rw[hn]at h;obtain⟨rfl,hp,ht⟩:=h;exact hyes t r w' hn ht (S.went ht hp)
theorem PFr.post {α β:Type} {f:FuncId} {args:Array Value} {Rep:World->α->Value->Prop} {Rep2:World->β->Value->Prop} {x:Res α} {y:Res β} {K:Ending->World->Prop} (S:PFr pb sz w0 w L l) (C:Calls prog f args w (Post pb sz Rep x w))
 (herr:∀p q,x=.err p q->y=.err p q) (hK:∀c w',Post pb sz Rep2 y w0 (.panicked c) w'->K (.panicked c) w')
 (hok:∀a r v w',x=.ok a r->Rep w' a v->Turn (·=pb) w w'->Hid (PFr pb sz w0 w' L r)->K (.returned v) w'):Calls prog f args w K:=by
 refine Calls.mono C ?_
 intro e w' h
 cases x with
 | ok a r=>
  obtain⟨v,rfl,hv,hp,ht⟩:=h;exact hok a r v w' rfl hv ht (S.went ht hp)
 | err p q=>
  obtain⟨rfl,ht⟩:=h;refine hK _ _ ?_;rw[herr p q rfl];exact⟨rfl,S.turn.trans ht (fun _ _ h=>h)⟩
theorem PFr.stop {β:Type} {Rep2:World->β->Value->Prop} {y:Res β} {K:Ending->World->Prop} (S:PFr pb sz w0 w L l) (q:Int) (hy:y=stopR sz l q) (hK:∀c w',Post pb sz Rep2 y w0 (.panicked c) w'->K (.panicked c) w'):
 Calls prog 54 #[.pointer (some ⟨pb,0,none⟩),.int .i64 q] w K:=by
 refine Calls.mono (D3 pb sz q l w S.psr) ?_
 rintro e w' ⟨rfl,ht⟩
 refine hK _ _ ?_
 rw[hy]
 exact⟨rfl,S.turn.trans ht (fun _ _ h=>h)⟩
theorem PFr.done {α:Type} {Rep:World->α->Value->Prop} {y:Res α} {a:α} {v:Value} (S:PFr pb sz w0 w L l) (hy:y=.ok a l) (hv:Rep w a v):Post pb sz Rep y w0 (.returned v) w:=by
 rw[hy];exact⟨v,rfl,hv,S.psr,S.turn⟩
def RExF (B:Nat) (w:World) (e:Ex) (v:Value):Prop:=∃cs,v=.agg cs.toArray/\ExIn (B≤·) w e cs
def RVal (_:World) (x:V) (v:Value):Prop:=v=.agg #[.int .i64 x.k,.int .i64 x.n,.string x.s]
theorem Ao {w:World} {o:Obj} {n:Nat} (h:n=w.heap.size):(w.alloc o).heap[n]?=some o:=by subst h;exact World.alloc_heap_new _ _
theorem Co {α:Type} {C:α->Prop} (x:α) (h:∀y,Hid (y=x)->C y):C x:=h x rfl
theorem Oo (pb:Nat) (sz:Int) (l:List Tok) (w:World) (h:Psr w pb sz l):Calls prog 122 #[.pointer (some ⟨pb,0,none⟩)] w (Post pb sz RVal (literalR sz l) w):=by
 have S0:=Lib.hid (PFr.start h);clear h;refine Co (C:=fun y=>Calls prog 122 _ w (Post pb sz RVal y w)) _ ?_;intro y HM;unfold literalR at HM;go_enter func122,ntmps122;go_wp2_with fail;refine(PFr.alloc S0.out).next 4 ?_ ?_
 ·intro t r w1 hn _ S1;have HM1:Hid (y=.ok ⟨2,0,⟨t.s.toArray⟩⟩ r):=by show _=_;rw[HM.out,hn]
  clear HM hn;have F1:=S1.out.facts;simp only[St.Facts,cellFacts,apartFacts,and_true]at F1;go_wp2_with fail;refine bodyPost_ret (v:=.agg #[.int .i64 2,.int .i64 0,.string ⟨t.s.toArray⟩]) (by simp[results,results122,go_sem,F1]) rfl ?_;exact PFr.done (PFr.laid (PFr.set 0 (PFr.set 0 (PFr.set 0 (S1.out) rfl) rfl) rfl)) HM1.out rfl
 ·intro w1 hn _ S1;have HM1:=HM.out;rw[hn]at HM1;replace HM1:=Lib.hid HM1;clear HM hn;go_wp2_with fail;refine PFr.takes (PFr.laid (PFr.laid (S1.out))) [45] (Ao (by simp)) (by decide) ?_ ?_
  ·intro r w2 hn _ S2;have HM2:=HM1.out;rw[hn]at HM2;replace HM2:=Lib.hid HM2;clear HM1 hn;go_wp2_with fail;refine S2.out.next 3 ?_ ?_
   ·intro t r3 w3 hn _ S3;have HM3:=HM2.out;simp only[hn]at HM3;replace HM3:=Lib.hid HM3;have hf:=S2.out.psr.fine t (by have:=D9 hn;rw[this.1];simp);have hw:wrap64 (-t.n)= -t.n:=IntWalk.wrap64_in _ ⟨by omega,by omega⟩;clear HM2 hn hf;have F3:=S3.out.facts;simp only[St.Facts,cellFacts,apartFacts,and_true]at F3;go_wp2_with fail;refine bodyPost_ret (v:=.agg #[.int .i64 1,.int .i64 (-t.n),.string ⟨#[]⟩]) (by simp[results,results122,go_sem,F3]) rfl ?_;exact PFr.done (PFr.laid (PFr.set 0 (PFr.set 0 (PFr.set 0 (S3.out) rfl) rfl) rfl)) HM3.out rfl
   ·intro w3 hn _ S3;have HM3:=HM2.out;simp only[hn]at HM3;replace HM3:=Lib.hid HM3;clear HM2 hn;go_wp2_with fail;exact PFr.stop (PFr.laid (S3.out)) 380 HM3.out (fun _ _ h=>⟨rfl,h⟩)
  ·intro w2 hn _ S2;have HM2:=HM1.out;simp only[hn]at HM2;replace HM2:=Lib.hid HM2;clear HM1 hn;go_wp2_with fail;refine PFr.takes (PFr.laid (S2.out)) [110,117,108,108] (Ao (by simp)) (by decide) ?_ ?_
   ·intro r w3 hn _ S3;have HM3:=HM2.out;simp only[hn]at HM3;replace HM3:=Lib.hid HM3;clear HM2 hn;have F3:=S3.out.facts;simp only[St.Facts,cellFacts,apartFacts,and_true]at F3;go_wp2_with fail;refine bodyPost_ret (v:=.agg #[.int .i64 0,.int .i64 0,.string ⟨#[]⟩]) (by simp[results,results122,go_sem,F3]) rfl ?_;exact PFr.done (PFr.set 0 (PFr.set 0 (PFr.set 0 (S3.out) rfl) rfl) rfl) HM3.out rfl
   ·intro w3 hn _ S3;have HM3:=HM2.out;simp only[hn]at HM3;replace HM3:=Lib.hid HM3;clear HM2 hn;go_wp2_with fail;refine PFr.takes (PFr.laid (S3.out)) [116,114,117,101] (Ao (by simp)) (by decide) ?_ ?_
    ·intro r w4 hn _ S4;have HM4:=HM3.out;simp only[hn]at HM4;replace HM4:=Lib.hid HM4;clear HM3 hn;have F4:=S4.out.facts;simp only[St.Facts,cellFacts,apartFacts,and_true]at F4;go_wp2_with fail;refine bodyPost_ret (v:=.agg #[.int .i64 3,.int .i64 1,.string ⟨#[]⟩]) (by simp[results,results122,go_sem,F4]) rfl ?_;exact PFr.done (PFr.set 0 (PFr.set 0 (PFr.set 0 (S4.out) rfl) rfl) rfl) HM4.out rfl
    ·intro w4 hn _ S4;have HM4:=HM3.out;simp only[hn]at HM4;replace HM4:=Lib.hid HM4;clear HM3 hn;go_wp2_with fail;refine PFr.takes (PFr.laid (S4.out)) [102,97,108,115,101] (Ao (by simp)) (by decide) ?_ ?_
     ·intro r w5 hn _ S5;have HM5:=HM4.out;simp only[hn]at HM5;replace HM5:=Lib.hid HM5;clear HM4 hn;have F5:=S5.out.facts;simp only[St.Facts,cellFacts,apartFacts,and_true]at F5;go_wp2_with fail;refine bodyPost_ret (v:=.agg #[.int .i64 3,.int .i64 0,.string ⟨#[]⟩]) (by simp[results,results122,go_sem,F5]) rfl ?_;exact PFr.done (PFr.set 0 (PFr.set 0 (PFr.set 0 (S5.out) rfl) rfl) rfl) HM5.out rfl
     ·intro w5 hn _ S5;have HM5:=HM4.out;simp only[hn]at HM5;replace HM5:=Lib.hid HM5;clear HM4 hn;go_wp2_with fail;refine PFr.post S5.out (Gn pb sz _ _ S5.out.psr) (fun p q h=>by rw[HM5.out,h];rfl) (fun _ _ h=>⟨rfl,h⟩) ?_;intro n r6 v6 w6 h6 hv6 _ S6;have HM6:Hid (y=.ok ⟨1,n,⟨#[]⟩⟩ r6):=by show _=_;rw[HM5.out,h6];rfl
      clear HM5 h6;obtain rfl:=hv6;have F6:=S6.out.facts;simp only[St.Facts,cellFacts,apartFacts,and_true]at F6;go_wp2_with fail;refine bodyPost_ret (v:=.agg #[.int .i64 1,.int .i64 n,.string ⟨#[]⟩]) (by simp[results,results122,go_sem,F6]) rfl ?_;exact PFr.done (PFr.set 0 (PFr.set 0 (PFr.set 0 (S6.out) rfl) rfl) rfl) HM6.out rfl
end Go.Proofs.YtjmmbebkbkgefaaGreatDoor
namespace Go.Proofs.YtjmmbebkbkgefaaGreatDoor
open Go.RowKit Go.Sort Tryz
theorem Br {B:Nat} {w:World} {op:Int} {t n:Bytes} {v:V} {args:List Ex} {a:Value} (h:ExSl (B≤·) w a args):RExF B w (.mk op t n v args) (.agg #[.int .i64 op,.string ⟨t.toArray⟩,.string ⟨n.toArray⟩,.int .i64 v.k,.int .i64 v.n,.string v.s,a]):=
 ⟨_,rfl,Bc h⟩
theorem Bw {B:Nat} {w:World} {op:Int} {t n:Bytes} {v:V} {args:List Ex} {x:Value} (h:RExF B w (.mk op t n v args) x):∃ad cap,x=.agg #[.int .i64 op,.string ⟨t.toArray⟩,.string ⟨n.toArray⟩,.int .i64 v.k,.int .i64 v.n,.string v.s,.slice ad args.length cap]/\ExSl (B≤·) w (.slice ad args.length cap) args:=by
 obtain⟨cs,rfl,h⟩:=h;obtain⟨a,e,h2⟩:=A6 h;obtain⟨acs,⟨ad,cap,rfl,hc,h3⟩,h4⟩:=h2;exact⟨ad,cap,by rw[e],acs,⟨ad,cap,rfl,hc,h3⟩,h4⟩
theorem Bd {M:Nat->Prop} {W:World} (p:TurnW M W) {b o:Nat} {v:Value} (h:W.cell? ⟨b,o,none⟩=some v) (hM:¬M b):p.w.cell? ⟨b,o,none⟩=some v:=by
 rw[World.cell?_of_block (a:=⟨b,o,none⟩) (p.h.block b (block_lt_of_cell h) hM)];exact h
theorem Sn (pb:Nat) (sz:Int) (l:List Tok) (w:World) (h:Psr w pb sz l):Calls prog 184 #[.pointer (some ⟨pb,0,none⟩)] w (Post pb sz (RExF w.heap.size) (refR sz l) w):=by
 have S0:=Lib.hid (PFr.start h);clear h;refine Co (C:=fun y=>Calls prog 184 _ w (Post pb sz (RExF w.heap.size) y w)) _ ?_;intro y HM0;unfold refR at HM0;go_enter func184,ntmps184;go_wp2_with fail;refine PFr.post (PFr.alloc (S0.out)) (Cp pb sz _ _ ((PFr.alloc (S0.out))).psr) (fun p q h=>by rw[HM0.out,h];try rfl) (fun _ _ h=>⟨rfl,h⟩) ?_;intro a1 r1 v1 w1 h1 hv1 ht1 S1;have HM1:=HM0.out;rw[h1]at HM1;try(simp only[Res.bind,Res.map]at HM1)
 replace HM1:=Lib.hid HM1;clear h1 HM0;obtain rfl:=hv1;have F1:=S1.out.facts;simp only[St.Facts,cellFacts,apartFacts,and_true]at F1;have hlt1:w.heap.size<w1.heap.size:=F1.1;go_wp2_with fail;refine PFr.takes (PFr.laid (PFr.alloc (S1.out))) [46] (Ao (by simp)) (by decide) ?_ ?_
 ·skip;intro r2 w2 hn ht2 S2;have HM2:=HM1.out;simp only[hn]at HM2;replace HM2:=Lib.hid HM2;clear HM1 hn;have F2:=S2.out.facts;simp only[St.Facts,cellFacts,apartFacts,and_true]at F2;go_wp2_with fail;have y0:∀p:TurnW (·=pb) w2,p.w.cell? ⟨w1.heap.size,2,none⟩=some (.string ⟨a1.toArray⟩):=fun p=>Bd p F2.2.1.2.2.1.1 (by have:=S2.out.lt;omega);refine Bf (·=pb) (fun c w'=>Post pb sz (RExF w.heap.size) y w (.panicked c) w') (fun _ _ _ hd h=>⟨hd,h⟩) 5 [(0,false),(1,false),(2,false),(4,false),(3,true)] (by kernel_rfl) (by kernel_rfl) ?_;repeat(refine Bm rfl (fun K hK=>?_);go_simp;first|(refine hK _ ?_;clear hK K)|(apply Exists.intro;refine⟨fun _=>?_,hK _ ?_⟩;(fail);clear hK K))
  refine Bj rfl rfl ?_;intro w3 hb3 ht3;have S3:=Lib.hid (S2.out.kept hb3);have HT3:=Lib.hid ht3;clear hb3 ht3 y0 F2;go_wp2_with fail;refine PFr.post S3.out (Cp pb sz _ _ S3.out.psr) (fun p q h=>by rw[HM2.out,h];try rfl) (fun _ _ h=>h) ?_;intro a4 r4 v4 w4 h4 hv4 ht4 S4;have HM4:=HM2.out;rw[h4]at HM4;try(simp only[Res.bind,Res.map]at HM4)
  replace HM4:=Lib.hid HM4;clear h4 HM2;obtain rfl:=hv4;go_wp2_with fail;refine⟨HT3.out.trans ht4 (fun _ _ h=>h),C7 ?_⟩;intro w5 hb5 _;have S5:=Lib.hid (S4.out.kept hb5);clear hb5 HT3 ht4;have F5:=S5.out.facts;simp only[St.Facts,cellFacts,apartFacts,and_true]at F5;simp only[List.drop_succ_cons,List.drop_zero];go_wp2_with fail;refine bodyPost_ret (v:=.agg #[.int .i64 1,.string ⟨a1.toArray⟩,.string ⟨a4.toArray⟩,.int .i64 0,.int .i64 0,.string ⟨#[]⟩,.slice none 0 0]) (by simp[results,results184,go_sem,F5]) rfl ?_;exact PFr.done (PFr.set 1 (PFr.set 1 (PFr.set 1 (PFr.set 1 (PFr.set 1 (PFr.set 1 (PFr.set 1 (PFr.set 0 (PFr.set 0 (S5.out) rfl) rfl) rfl) rfl) rfl) rfl) rfl) rfl) rfl) HM4.out (Br (ExSl.nil _ _))
 ·skip;intro w2 hn ht2 S2;have HM2:=HM1.out;simp only[hn]at HM2;replace HM2:=Lib.hid HM2;clear HM1 hn;have F2:=S2.out.facts;simp only[St.Facts,cellFacts,apartFacts,and_true]at F2;go_wp2_with fail;refine bodyPost_ret (v:=.agg #[.int .i64 1,.string ⟨#[]⟩,.string ⟨a1.toArray⟩,.int .i64 0,.int .i64 0,.string ⟨#[]⟩,.slice none 0 0]) (by simp[results,results184,go_sem,F2]) rfl ?_;exact PFr.done (PFr.set 1 (PFr.set 1 (PFr.set 1 (PFr.set 1 (PFr.set 1 (PFr.set 1 (PFr.set 1 (S2.out) rfl) rfl) rfl) rfl) rfl) rfl) rfl) HM2.out (Br (ExSl.nil _ _))
end Go.Proofs.YtjmmbebkbkgefaaGreatDoor
