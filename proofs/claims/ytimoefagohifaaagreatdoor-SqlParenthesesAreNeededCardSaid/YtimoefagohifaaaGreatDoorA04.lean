/- Laws that the last part needs. No condition. -/
import Derived.Laws.IdiomMaps
import Derived.StringKeys
import Derived.Lib.LaidTab
import Derived.Test.YtimoefagohifaaaGreatDoorA03
set_option maxHeartbeats 4000000
set_option maxRecDepth 100000
namespace Go.Proofs.YtimoefagohifaaaGreatDoor
open Go.RowKit Go.Sort Tryz
def strV (s:Bytes):Value:=.string (Y s)
def Tok.cells (t:Tok):List Value:=[U t.kind,U t.at_,.string (Y t.s),U t.n]
def tkVals (l:List Tok):List Value:=l.flatMap Tok.cells
def strVals (l:List Bytes):List Value:=l.map strV
def V.cells (v:V):List Value:=[U v.k,U v.n,.string v.s]
mutual
def ExIn (Q:Nat->Prop) (w:World):Ex->List Value->Prop
 | .mk op t n v args,cs=>∃a acs,cs=[U op,.string (Y t),.string (Y n),U v.k,U v.n,.string v.s,a]/\SlIn Q w a args.length acs/\ExsIn Q w args acs
def ExsIn (Q:Nat->Prop) (w:World):List Ex->List Value->Prop
 | [],acs=>acs=[]
 | e::l,acs=>∃c1 c2,acs=c1++c2/\ExIn Q w e c1/\ExsIn Q w l c2
end
def ExSl (Q:Nat->Prop) (w:World) (v:Value) (l:List Ex):Prop:=∃acs,SlIn Q w v l.length acs/\ExsIn Q w l acs
theorem ExIn.len {Q:Nat->Prop} {w:World} {e:Ex} {cs:List Value} (h:ExIn Q w e cs):cs.length=7:=by
 obtain⟨op,t,n,v,args⟩:=e;obtain⟨a,acs,rfl,_⟩:=h;rfl
theorem ExsIn.len {Q:Nat->Prop} {w:World}:∀{l:List Ex} {acs:List Value},ExsIn Q w l acs->acs.length=l.length * 7
 | [],acs,h=>by simp only[ExsIn]at h;subst h;rfl
 | e::l,acs,h=>by
  obtain⟨c1,c2,rfl,h1,h2⟩:=h;have:=h1.len;have:=ExsIn.len h2;exact ahj
theorem Bj {Q R:Nat->Prop} {w w':World} (hq:∀b,b<w.heap.size->Q b->R b/\w'.heap[b]?=w.heap[b]?):∀e:Ex,∀cs,ExIn Q w e cs->ExIn R w' e cs:=by
 refine Ex.ind fun op t n v args ih=>?_;rintro cs ⟨a,acs,rfl,h1,h2⟩;have key:∀(l:List Ex) (acs:List Value),(∀e∈l,∀cs,ExIn Q w e cs->ExIn R w' e cs)->ExsIn Q w l acs->ExsIn R w' l acs:=by
  intro l
  induction l with
  | nil=>intro acs _ h;exact h
  | cons e l ihl=>exact p7
 refine⟨a,acs,rfl,?_,key args acs ih h2⟩;obtain⟨ad,cap,e,hc,h⟩:=h1;refine⟨ad,cap,e,hc,fun hn=>?_⟩;obtain⟨b,o,e2,k,k2⟩:=h hn;exact qi
theorem B5 {Q R:Nat->Prop} {w w':World} (hq:∀b,b<w.heap.size->Q b->R b/\w'.heap[b]?=w.heap[b]?):∀(l:List Ex) (acs:List Value),ExsIn Q w l acs->ExsIn R w' l acs
 | [],acs,h=>h
 | e::l,acs,h=>by
  obtain⟨c1,c2,rfl,k1,k2⟩:=h;exact⟨c1,c2,rfl,Bj hq e _ k1,B5 hq l _ k2⟩
theorem Bi {Q R:Nat->Prop} {w w':World} (hq:∀b,b<w.heap.size->Q b->R b/\w'.heap[b]?=w.heap[b]?) {v:Value} {l:List Ex} (h:ExSl Q w v l):ExSl R w' v l:=by
 obtain⟨acs,⟨ad,cap,e,hc,h1⟩,h2⟩:=h;refine⟨acs,⟨ad,cap,e,hc,fun hn=>?_⟩,B5 hq _ _ h2⟩;obtain⟨b,o,e2,k,k2⟩:=h1 hn;exact qi
theorem ExIn.mono {Q R:Nat->Prop} {w:World} {e:Ex} {cs:List Value} (h:ExIn Q w e cs) (hq:∀b,Q b->R b):ExIn R w e cs:=Bj (fun b _ hb=>⟨hq b hb,rfl⟩) e cs h
theorem ExIn.turned {Q M:Nat->Prop} {w w':World} {e:Ex} {cs:List Value} (h:ExIn Q w e cs) (ht:Turn M w w') (hq:∀b,Q b->¬M b):ExIn Q w' e cs:=Bj (fun b hb k=>⟨k,ht.block b hb (hq b k)⟩) e cs h
theorem ExIn.kept {Q:Nat->Prop} {w w':World} {e:Ex} {cs:List Value} (h:ExIn Q w e cs) (hb:Below w.heap.size w w'):ExIn Q w' e cs:=Bj (fun b hl k=>⟨k,hb.block b hl⟩) e cs h
theorem ExsIn.mono {Q R:Nat->Prop} {w:World} {l:List Ex} {cs:List Value} (h:ExsIn Q w l cs) (hq:∀b,Q b->R b):ExsIn R w l cs:=B5 (fun b _ hb=>⟨hq b hb,rfl⟩) l cs h
theorem ExsIn.turned {Q M:Nat->Prop} {w w':World} {l:List Ex} {cs:List Value} (h:ExsIn Q w l cs) (ht:Turn M w w') (hq:∀b,Q b->¬M b):ExsIn Q w' l cs:=B5 (fun b hb k=>⟨k,ht.block b hb (hq b k)⟩) l cs h
theorem ExsIn.kept {Q:Nat->Prop} {w w':World} {l:List Ex} {cs:List Value} (h:ExsIn Q w l cs) (hb:Below w.heap.size w w'):ExsIn Q w' l cs:=B5 (fun b hl k=>⟨k,hb.block b hl⟩) l cs h
theorem ExSl.mono {Q R:Nat->Prop} {w:World} {v:Value} {l:List Ex} (h:ExSl Q w v l) (hq:∀b,Q b->R b):ExSl R w v l:=Bi (fun b _ hb=>⟨hq b hb,rfl⟩) h
theorem ExSl.turned {Q M:Nat->Prop} {w w':World} {v:Value} {l:List Ex} (h:ExSl Q w v l) (ht:Turn M w w') (hq:∀b,Q b->¬M b):ExSl Q w' v l:=Bi (fun b hb k=>⟨k,ht.block b hb (hq b k)⟩) h
theorem ExSl.kept {Q:Nat->Prop} {w w':World} {v:Value} {l:List Ex} (h:ExSl Q w v l) (hb:Below w.heap.size w w'):ExSl Q w' v l:=Bi (fun b hl k=>⟨k,hb.block b hl⟩) h
theorem Ds {Q:Nat->Prop} {w:World} {op:Int} {t n:Bytes} {v:V} {args:List Ex} {cs:List Value} (h:ExIn Q w (.mk op t n v args) cs):∃a,cs=[U op,.string (Y t),.string (Y n),U v.k,U v.n,.string v.s,a]/\ExSl Q w a args:=by
 obtain⟨a,acs,h1,h2,h3⟩:=h;exact⟨a,h1,acs,h2,h3⟩
theorem Bc {Q:Nat->Prop} {w:World} {op:Int} {t n:Bytes} {v:V} {args:List Ex} {a:Value} (h:ExSl Q w a args):ExIn Q w (.mk op t n v args) [U op,.string (Y t),.string (Y n),U v.k,U v.n,.string v.s,a]:=by
 obtain⟨acs,h2,h3⟩:=h;exact⟨a,acs,rfl,h2,h3⟩
theorem ExSl.nil (Q:Nat->Prop) (w:World):ExSl Q w eL []:=⟨[],⟨none,0,rfl,tu _,fun h=>absurd h acx⟩,rfl⟩
theorem Kn {Q:Nat->Prop} {w:World} {v:Value} {n:Nat} {cs:List Value} (h:SlIn Q w v n cs):v.oneCell'=true:=by
 obtain⟨a,cap,rfl,_⟩:=h;rfl
theorem ExIn.ones {Q:Nat->Prop} {w:World} {e:Ex} {cs:List Value} (h:ExIn Q w e cs):∀u∈cs,u.oneCell'=true:=by
 obtain⟨op,t,n,v,args⟩:=e;obtain⟨a,acs,rfl,h1,_⟩:=h;intro u hu;simp only[uw,vl,xp]at hu;rcases hu with rfl|rfl|rfl|rfl|rfl|rfl|rfl
 all_goals first|rfl|exact Kn h1
theorem ExsIn.ones {Q:Nat->Prop} {w:World}:∀{l:List Ex} {acs:List Value},ExsIn Q w l acs->∀u∈acs,u.oneCell'=true
 | [],acs,h,u,hu=>by simp only[ExsIn]at h;subst h;cases hu
 | e::l,acs,h,u,hu=>by
  obtain⟨c1,c2,rfl,h1,h2⟩:=h;rcases wi.1 hu with hu|hu
  ·exact h1.ones u hu
  ·exact ExsIn.ones h2 u hu
theorem ExsIn.get {Q:Nat->Prop} {w:World}:∀{l:List Ex} {acs:List Value} {i:Nat} {e:Ex},ExsIn Q w l acs->l[i]?=some e->∃c,ExIn Q w e c/\∀j u,c[j]?=some u->acs[i * 7+j]?=some u
 | [],acs,i,e,_,hi=>by cases hi
 | d::l,acs,0,e,h,hi=>by exact Zo
 | d::l,acs,i+1,e,h,hi=>by
  obtain⟨c1,c2,rfl,h1,h2⟩:=h;simp only[xq]at hi;obtain⟨c,hc,hj⟩:=ExsIn.get h2 hi;refine⟨c,hc,fun j u hu=>?_⟩;have:=h1.len;rw[aa2 acw,show(i+1) * 7+j - c1.length=i * 7+j by omega];exact hj j u hu
theorem ExsIn.append {Q:Nat->Prop} {w:World}:∀{l:List Ex} {acs:List Value} {m:List Ex} {bcs:List Value},ExsIn Q w l acs->ExsIn Q w m bcs->ExsIn Q w (l++m) (acs++bcs)
 | [],acs,m,bcs,h,k=>by simp only[ExsIn]at h;subst h;exact k
 | e::l,acs,m,bcs,h,k=>by
  obtain⟨c1,c2,rfl,h1,h2⟩:=h;exact⟨c1,c2++bcs,by simp,h1,ExsIn.append h2 k⟩
theorem ExsIn.one {Q:Nat->Prop} {w:World} {e:Ex} {cs:List Value} (h:ExIn Q w e cs):ExsIn Q w [e] cs:=⟨cs,[],by simp,h,rfl⟩
theorem Qt {Q:Nat->Prop} {w:World} {l:List Ex} {acs:List Value} {b:Nat} {t:TypeId} {fr:Nat×Nat} (h:ExsIn Q w l acs) (hb:w.heap[b]?=some (.cells acs.toArray t fr)) (hQ:Q b):ExSl Q w (.slice (O b) l.length l.length) l:=by
 refine⟨acs,⟨some ⟨b,0,none⟩,l.length,rfl,tu _,fun _=>⟨b,0,rfl,hQ,fun j u hu=>?_⟩⟩,h⟩;simp only[World.cell?,hb,xr];simpa using hu
theorem A2 {Q:Nat->Prop} {w:World} {v u:Value} {l:List Ex} {b o:Nat} (h:ExSl Q w v l) (hq:∀c,Q c->c≠b):ExSl Q (w.setCell ⟨b,o,none⟩ u) v l:=
 h.turned (M:=(·=b)) ((Turn.refl _ w).setCell (.inl rfl)) hq
theorem A9 {Q:Nat->Prop} {w:World} {v:Value} {o:Obj} {l:List Ex} (h:ExSl Q w v l):ExSl Q (w.alloc o) v l:=h.kept ((uj _ _).alloc (tu _) _)
section
open Go.WideMaps Go.WideElems Go.WideShapes
structure OpEntries (es:Array MapEntry) (clock:Nat):Prop where
 size:es.size<=maxLen
 stamped:MapKept.Stamped es clock
 mem:∀x∈es.toList,∃y∈opTab,x.key=.string (Y y.1)/\x.val=.agg #[U y.2.1,U y.2.2]
 all:∀y∈opTab,∃x∈es.toList,x.key=.string (Y y.1)
structure Env (B:Nat) (w:World):Prop where
 lo:12<=B
 hi:B<=w.heap.size
 ops:∃mb es clock,mb<B/\w.cell? ⟨0,0,none⟩=some (.map (some mb))/\w.heap[mb]?=some (.map es clock)/\OpEntries es clock
 maxLen:∃m:Int,w.cell? ⟨3,0,none⟩=some (U m)
 pow:Lib.TabIs prog w "internal/strconv.uint64pow10" .u64 Lib.pow10Tab
 props:Lib.TabIs prog w "unicode.properties" .u8 Lib.propertiesTab
 esyn:∃t p,w.cell? ⟨4,0,none⟩=some (.iface t p)
 eran:∃t p,w.cell? ⟨5,0,none⟩=some (.iface t p)
theorem Env.same {B:Nat} {w w':World} (h:Env B w) (hs:w.heap.size<=w'.heap.size) (hb:∀k,k<B->w'.heap[k]?=w.heap[k]?):Env B w':=by
 have hlo:=h.lo;have hc:∀(k o:Nat),k<B->w'.cell? ⟨k,o,none⟩=w.cell? ⟨k,o,none⟩:=fun k o hk=>aau (a:=⟨k,o,none⟩) (hb k hk);refine⟨h.lo,vj h.hi hs,?_,?_,?_,?_,?_,?_⟩
 ·obtain⟨mb,es,clock,h1,h2,h3,h4⟩:=h.ops;exact⟨mb,es,clock,h1,by rw[hc 0 0 acw];exact h2,by rw[hb mb h1];exact h3,h4⟩
 ·rw[hc 3 0 acw];exact h.maxLen
 ·have:=h.pow;unfold Lib.TabIs World.var? at this ⊢;rw[show prog.globalNamed "internal/strconv.uint64pow10"=some 6 by kernel_rfl]at this ⊢;simp only[Option.bind_some]at this ⊢;rw[hb 6 acw];exact this
 ·have:=h.props;unfold Lib.TabIs World.var? at this ⊢;rw[show prog.globalNamed "unicode.properties"=some 1 by kernel_rfl]at this ⊢;simp only[Option.bind_some]at this ⊢;rw[hb 1 acw];exact this
 ·rw[hc 4 0 acw];exact h.esyn
 ·rw[hc 5 0 acw];exact h.eran
theorem Env.kept {B:Nat} {w w':World} (h:Env B w) (hb:Below w.heap.size w w'):Env B w':=h.same hb.size (fun k hk=>hb.block k (vw hk h.hi))
theorem Env.turned {B:Nat} {M:Nat->Prop} {w w':World} (h:Env B w) (ht:Turn M w w') (hM:∀k,M k->B<=k):Env B w':=
 h.same ht.size (fun k hk=>ht.block k (vw hk h.hi) (fun hm=>by have:=hM k hm;omega))
theorem Env.up {B C:Nat} {w:World} (h:Env B w) (h1:B<=C) (h2:C<=w.heap.size):Env C w:=by
 obtain⟨mb,es,clock,k,k2⟩:=h.ops;exact⟨vj h.lo h1,h2,⟨mb,es,clock,vw k h1,k2⟩,h.maxLen,h.pow,h.props,h.esyn,h.eran⟩
theorem cj:WideMaps.KeyLaw prog 9:=string_law underlying9
theorem Pr:∀x∈opTab,∀y∈opTab,x.1=y.1->x=y:=ac0
theorem ci {y:Bytes×Int×Int} (h:y∈opTab):opOf y.1=some y.2:=by
 have:∀y∈opTab,opOf y.1=some y.2:=ac0;exact this y h
theorem Xf {s:Bytes} (h:∀y∈opTab,y.1≠s):opOf s=none:=by
 unfold opOf;rw[Option.map_eq_none_iff,List.find?_eq_none];intro y hy;simpa using h y hy
theorem str_key (s:Bytes) (hs:s.length<=maxLen):keyOf prog 9 (.string (Y s))=some (.string s):=
 keyOf_string_mk (s:=⟨s.toArray⟩) underlying9 (by show s.toArray.size<=maxLen;simpa using hs)
theorem Pp:∀y∈opTab,y.1.length<=3:=ac0
theorem je {es:Array MapEntry} {clock:Nat} (E:OpEntries es clock) (s:Bytes) (hs:s.length<=maxLen) (w:World):((Instr.findKey 9 (.string (Y s)) es.toList).run prog w=.ok none w/\opOf s=none) \/∃j p,(Instr.findKey 9 (.string (Y s)) es.toList).run prog w=.ok (some (j,.agg #[U p.1,U p.2])) w/\opOf s=some p:=by
 have hinj:∀{a b:Bytes},(Value.string (Y a))=.string (Y b)->a=b:=fun{a b} h=>by simpa using h
 rcases cj.find w (str_key s hs) es.toList (fun x hx=>by
  obtain⟨y,hy,e1,_⟩:=E.mem x hx;exact⟨_,by rw[e1];exact str_key y.1 (vj (Pp y hy) acy)⟩)with⟨h1,h2⟩|⟨j,e,h1,h2,h3⟩
 ·refine .inl ⟨h1,Xf fun y hy e=>?_⟩;obtain⟨x,hx,ex⟩:=E.all y hy;exact h2 x hx (by rw[ex,e])
 ·obtain⟨y,hy,e1,e2⟩:=E.mem e (uq h2);have:y.1=s:=hinj (e1.symm.trans h3);refine .inr ⟨j,y.2,by rw[h1,e2],?_⟩;rw[<- this];exact ci hy
theorem fl (w:World):(zeroValue 215).run prog w=.ok (.agg #[U 0,U 0]) w:=acz
theorem Nn {mb:Nat} {es:Array MapEntry} {clock:Nat} {w:World} (hb:w.heap[mb]?=some (.map es clock)) (E:OpEntries es clock) (s:Bytes) (hs:s.length<=maxLen):(Instr.lookup 213 (.map (some mb)) (.string (Y s)) true).run prog w=.ok (.tuple #[.agg #[U (opPair s).1,U (opPair s).2],.bool (opOf s).isSome]) w:=z94
theorem Xe {mb:Nat} {es:Array MapEntry} {clock:Nat} {w:World} (hb:w.heap[mb]?=some (.map es clock)) (E:OpEntries es clock) (s:Bytes) (hs:s.length<=maxLen):(Instr.lookup 213 (.map (some mb)) (.string (Y s)) false).run prog w=.ok (.agg #[U (opPair s).1,U (opPair s).2]) w:=z94
abbrev En (n:FuncId):Prop:=∀args w,(callFunc n args).run prog w=.ok (.enter n args) w
end
section
structure Psr (w:World) (pb:Nat) (sz:Int) (l:List Tok):Prop where
 env:Env pb w
 blk:∃v,w.heap[pb]?=some (.cells #[v,U sz] 114 (0,0))/\SlIn (·<pb) w v l.length (tkVals l)
 fine:∀t∈l,0<=t.n/\t.n<=549755813888/\t.s.length<=4000
 few:l.length<=4000
theorem G4 {l:List Tok} (h:0<l.length):tkVals l≠[]:=by
 cases l with
 | nil=>simp at h
 | cons t l=>simp[tkVals,Tok.cells]
theorem Psr.kept {w w':World} {pb:Nat} {sz:Int} {l:List Tok} (h:Psr w pb sz l) (hb:Below w.heap.size w w'):Psr w' pb sz l:=by
 obtain⟨v,h1,h2⟩:=h.blk;exact⟨h.env.kept hb,⟨v,hb.blk_kept h1,h2.kept hb⟩,h.fine,h.few⟩
theorem Psr.lt {w:World} {pb:Nat} {sz:Int} {l:List Tok} (h:Psr w pb sz l):pb<w.heap.size:=by
 obtain⟨v,h1,_⟩:=h.blk;exact(uh.1 h1).1
theorem Psr.turned {M:Nat->Prop} {w w':World} {pb:Nat} {sz:Int} {l:List Tok} (h:Psr w pb sz l) (ht:Turn M w w') (hM:∀k,M k->pb<k):Psr w' pb sz l:=by
 obtain⟨v,h1,h2⟩:=h.blk;refine⟨h.env.turned ht (fun k hk=>yq (hM k hk)),⟨v,?_,h2.turned ht (fun b hb hm=>?_) G4⟩,h.fine,h.few⟩
 ·rw[ht.block pb h.lt (fun hm=>abh _ (hM _ hm))];exact h1
 ·have h3:=hM b hm;have h4:b<pb:=hb;omega
theorem Psr.nil {w:World} {pb:Nat} {sz:Int} (h:Psr w pb sz []):∃a cap,w.heap[pb]?=some (.cells #[.slice a 0 cap,U sz] 114 (0,0)):=by
 obtain⟨v,h1,a,cap,rfl,_⟩:=h.blk;exact⟨a,cap,h1⟩
structure Head (w:World) (pb:Nat) (sz:Int) (t:Tok) (r:List Tok) (b o cap:Nat):Prop where
 blk:w.heap[pb]?=some (.cells #[.slice (some ⟨b,o,none⟩) (r.length+1) cap,U sz] 114 (0,0))
 cap1:r.length+1<=cap
 lt:b<pb
 c0:w.cell? ⟨b,o,none⟩=some (U t.kind)
 c1:w.cell? ⟨b,o+1,none⟩=some (U t.at_)
 c2:w.cell? ⟨b,o+2,none⟩=some (.string (Y t.s))
 c3:w.cell? ⟨b,o+3,none⟩=some (U t.n)
 rest:CellsAt w b (o+4) (tkVals r)
theorem Psr.head {w:World} {pb:Nat} {sz:Int} {t:Tok} {r:List Tok} (h:Psr w pb sz (t::r)):∃b o cap,Head w pb sz t r b o cap:=by
 obtain⟨v,h1,a,cap,rfl,hc,hcl⟩:=h.blk;obtain⟨b,o,rfl,hlt,hat⟩:=hcl acx;refine⟨b,o,cap,h1,hc,hlt,hat 0 _ rfl,hat 1 _ rfl,hat 2 _ rfl,hat 3 _ rfl,fun j v hv=>?_⟩;have:=hat (j+4) v (by simpa[tkVals,Tok.cells]using hv);rw[ab7 j 4,<- zx]at this;exact this
theorem Psr.step {w w':World} {pb:Nat} {sz:Int} {t:Tok} {r:List Tok} {b o cap c':Nat} {q:Addr} (h:Psr w pb sz (t::r)) (H:Head w pb sz t r b o cap) (ht:Turn (·=pb) w w') (hb:w'.heap[pb]?=some (.cells #[.slice (some q) r.length c',U sz] 114 (0,0))) (hc:r.length<=c') (hq:0<r.length->q=⟨b,o+4,none⟩):Psr w' pb sz r:=by
 refine⟨h.env.turned ht (fun k hk=>by rw[hk];exact tu _),⟨_,hb,some q,c',rfl,hc,fun h0=>⟨b,o+4,by rw[hq h0],H.lt,H.rest.same (ht.block b ?_ (fun e=>?_))⟩⟩,fun u hu=>h.fine u (by simp[hu]),by have:=h.few;simp at this;omega⟩
 ·exact H.rest.lt (G4 h0)
 ·have h1:=H.lt;have h2:b=pb:=e;omega
def Stops (pb:Nat) (w:World) (p x:Int) (e:Ending) (w':World):Prop:=e=.panicked [{v:=.iface 26 (.agg #[U p,U x]),recovered:=false}]/\Turn (·=pb) w w'
theorem D3 (pb:Nat) (sz x:Int) (l:List Tok) (w:World) (h:Psr w pb sz l):Calls prog 55 #[.pointer (O pb),U x] w (Stops pb w (headAt sz l) x):=by
 have hlb:=h.lt
 cases l with
 | nil=>
  obtain⟨a,cap,h1⟩:=h.nil;have F:=Al h1 [.slice a 0 cap,U sz] 0 (fun j=>acx);simp only[cellFacts,uo]at F;clear h h1;exact aht
 | cons t r=>
  obtain⟨b,o,cap,H⟩:=h.head;refine lq ?_;intro F;have t1:=H.c1;have hc:1<=cap:=by have:=H.cap1;omega
  clear H h;exact aht
def NextRes (pb:Nat) (sz:Int) (k:Int) (l:List Tok) (w:World) (e:Ending) (w':World):Prop:=match nextR k l with
 | some (t,r)=>e=.returned (.tuple #[.agg #[U t.kind,U t.at_,.string (Y t.s),U t.n],.bool true])/\Psr w' pb sz r/\Turn (·=pb) w w'
 | none=>e=.returned (.tuple #[.agg #[U 0,U 0,eS,U 0],.bool false])/\Below w.heap.size w w'
theorem K4 (pb:Nat) (sz k:Int) (l:List Tok) (w:World) (h:Psr w pb sz l):Calls prog 186 #[.pointer (O pb),U k] w (NextRes pb sz k l w):=by
 have hlb:=h.lt
 cases l with
 | nil=>
  obtain⟨a,cap,h1⟩:=h.nil;have F:=Al h1 [.slice a 0 cap,U sz] 0 (fun j=>acx);simp only[cellFacts,uo]at F;clear h h1;unfold NextRes;simp only[nextR];go_enter func186,ntmps186;go_wp2_with fail;exact pk
 | cons t r=>
  obtain⟨b,o,cap,H⟩:=h.head;refine lq ?_;intro F;have HH:=tm H;have HP:=tm h;obtain⟨tk,ta,ts,tn⟩:=t;have t0:=H.c0;have t1:=H.c1;have t2:=H.c2;have t3:=H.c3;have hc:=H.cap1;have hlt:=H.lt;have hne:b≠pb:=acw;have hne2:pb≠b:=acw;have hl:b<w.heap.size:=acw;have S:Hid (StM (·=pb) w w [(pb,#[.slice (some ⟨b,o,none⟩) (r.length+1) cap,U sz],114)]):=StM.one rfl H.blk;have fin:∀c' q x y,r.length<=c'->(0<r.length->q=⟨b,o+4,none⟩)->Hid (Psr (((w.setCell ⟨pb,0,none⟩ (.slice (some q) r.length c')).alloc x).alloc y) pb sz r/\Turn (·=pb) w (((w.setCell ⟨pb,0,none⟩ (.slice (some q) r.length c')).alloc x).alloc y)):=fun c' q x y hc' hq=>by
   have S:=StM.set 0 (o:=0) (v:=.slice (some q) r.length c') S.out rfl;have S:=(S.kept ((uj _ _).alloc (tu _) x));have S:=(S.kept ((uj _ _).alloc (tu _) y));exact⟨HP.out.step HH.out S.turn (S.blk 0 rfl) hc' hq,S.turn⟩
  clear H h S;unfold NextRes;simp only[nextR];by_cases hk:tk=k
  ·subst hk;rw[if_pos rfl];simp only;by_cases hcap:cap=1
   ·have hr:r.length=0:=acw;rw[hr]at fin;go_enter func186,ntmps186;go_wp2_with fail;go_returns;exact⟨rfl,fin _ _ _ _ acw (fun h=>absurd h acw)⟩
   ·go_enter func186,ntmps186;go_wp2_with fail;go_returns;exact⟨rfl,fin _ _ _ _ acw (fun _=>rfl)⟩
  ·rw[if_neg hk];simp only;have k1:(tk != k)=true:=by simpa using hk
   clear fin;go_enter func186,ntmps186;go_wp2_with fail;exact pk
def seesIn (ws:List Bytes):List Tok->Bool
 | []=>false
 | t::_=>(decide (t.kind=1)||decide (t.kind=5))&&ws.contains t.s
def SeesRes (ws:List Bytes) (l:List Tok) (w:World) (e:Ending) (w':World):Prop:=e=.returned (.tuple #[.string ⟨(seesWord l).toArray⟩,.bool (seesIn ws l)])/\Below w.heap.size w w'
theorem L0 (ws:List Bytes) (s:Bytes):Lib.containsS (ws.map fun w=>(⟨w.toArray⟩:ByteArray)) ⟨s.toArray⟩=ws.contains s:=by
 rw[yx,Lib.containsS_iff];simp
theorem L1 (ws:List Bytes) (s:Bytes) (v:Value) (w:World) (hv:SlAt w v ws.length (strVals ws)) (hl:ws.length<=1000000):Calls prog 64 #[v,.string (Y s)] w fun e w'=>e=.returned (.bool (ws.contains s))/\Laid w w':=by
 obtain⟨a,cap,rfl,hc,hcl⟩:=hv;by_cases h:0<ws.length
 ·obtain⟨b,o,rfl,hat⟩:=hcl h;refine(Tryz.slices_Contains_string b o ws.length cap (ws.map fun w=>(⟨w.toArray⟩:ByteArray)) ⟨s.toArray⟩ w acx acw (fun j hj=>?_)).mono ?_
  ·refine hat j _ ?_;simp only[zr]at hj;simp[strVals,strV,hj]
  ·rintro e w' ⟨rfl,rfl⟩;refine⟨?_,uj _ _⟩;rw[wq acx,L0]
 ·have:ws=[]:=ut acw;subst this;refine(Tryz.slices_Contains_string_empty a cap ⟨s.toArray⟩ w).mono ?_;rintro e w' ⟨rfl,rfl⟩;exact⟨rfl,uj _ _⟩
theorem Kq (ws:List Bytes) (v:Value) (pb:Nat) (sz:Int) (l:List Tok) (w:World) (h:Psr w pb sz l) (hv:SlAt w v ws.length (strVals ws)) (hl:ws.length<=1000000):Calls prog 184 #[.pointer (O pb),v] w (SeesRes ws l w):=by
 have hlb:=h.lt
 cases l with
 | nil=>
  obtain⟨a,cap,h1⟩:=h.nil;have F:=Al h1 [.slice a 0 cap,U sz] 0 (fun j=>acx);simp only[cellFacts,uo]at F;clear h h1 hv;go_enter func184,ntmps184;exact U5
 | cons t r=>
  obtain⟨b,o,cap,H⟩:=h.head;refine lq ?_;intro F;obtain⟨tk,ta,ts,tn⟩:=t;have t0:=H.c0;have t2:=H.c2;have hc:1<=cap:=by have:=H.cap1;omega
  have y:∀(d:Nat) (os:Array Obj),(grow (redrawn w d) os).cell? ⟨pb,0,none⟩=some (.slice (some ⟨b,o,none⟩) (r.length+1) cap):=fun d os=>(vt w d os).cell_kept F.1.1;have y1:∀(d:Nat) (os:Array Obj),(grow (redrawn w d) os).cell? ⟨b,o+2,none⟩=some (.string (Y ts)):=fun d os=>(vt w d os).cell_kept t2;have C:Hid (∀(d:Nat) (os:Array Obj),Calls prog 64 #[v,.string (Y ts)] (grow (redrawn w d) os) fun e w'=>e=.returned (.bool (ws.contains ts))/\Laid (grow (redrawn w d) os) w'):=fun d os=>L1 ws ts v _ (hv.kept (vt w d os)) hl;clear h H hv;unfold SeesRes;simp only[seesWord,seesIn];by_cases hk:tk=1\/tk=5
  ·rw[if_pos hk,show(decide (tk=1)||decide (tk=5))=true by simpa using hk,wk];generalize ws.contains ts=bb at *;have k1:(tk != 1&&tk != 5)=false:=by rcases hk with rfl|rfl<;>rfl
   have k:¬(tk≠1/\tk≠5):=acw;rcases hk with rfl|rfl
   all_goals
    go_enter func184,ntmps184
    go_wp2_with fail
    refine wp_region_mixed 18 [(0,false),(1,false),(2,false),(3,false),(4,false),(5,false),(6,false),(7,false),(8,false),(9,false),(10,false),(11,false),(12,false),(13,false),(14,false),(15,false),(16,false),(17,false)] acz acz ?_
    repeat(refine wpM_mild rfl (fun K hK=>?_);go_simp;first|(refine hK _ ?_;clear hK K)|(apply Exists.intro;refine⟨fun _=>?_,hK _ ?_⟩;(exact C.out _ _);clear hK K))
    refine Ba ?_
    intro w2 hb _
    have HB:=tm hb
    clear hb y y1 C
    go_wp2_with fail
    go_returns
    exact⟨rfl,HB.out⟩
  ·rw[if_neg hk,show(decide (tk=1)||decide (tk=5))=false by simpa using hk,zm];have k1:(tk != 1)=true:=by simp;omega
   have k:(tk != 5)=true:=by simp;omega
   clear y y1 C;go_enter func184,ntmps184;exact U5
theorem Ox {w:World} {nb cap:Nat} {s:Bytes} {t:TypeId} {fr:Nat×Nat} (h:w.heap[nb]?=some (.cells #[.string (Y s)] t fr)) (hc:1<=cap):SlAt w (.slice (O nb) 1 cap) [s].length (strVals [s]):=by
 refine⟨_,cap,rfl,hc,fun _=>⟨nb,0,rfl,fun j u hu=>?_⟩⟩
 cases j with
 | zero=>simp only[strVals,strV,yp,aad,xx,uz]at hu;subst hu;simp[World.cell?,h]
 | succ j=>simp[strVals]at hu
def TakesRes (pb:Nat) (sz:Int) (s:Bytes) (l:List Tok) (w:World) (e:Ending) (w':World):Prop:=match tk s l with
 | some r=>e=.returned (.bool true)/\Psr w' pb sz r/\Turn (·=pb) w w'
 | none=>e=.returned (.bool false)/\Below w.heap.size w w'
theorem Va (s:Bytes) (l:List Tok):seesIn [s] l=(tk s l).isSome:=by
 cases l with
 | nil=>rfl
 | cons t r=>
  simp only[seesIn,tk,aao,abf,aby];by_cases hk:t.kind=1\/t.kind=5
  ·have e:(decide (t.kind=1)||decide (t.kind=5))=true:=by simpa using hk
   rw[e,wk];by_cases hs:t.s=s
   ·rw[if_pos ⟨hk,hs⟩];simp[hs]
   ·rw[if_neg (fun h=>hs h.2)];simpa using hs
  ·have e:(decide (t.kind=1)||decide (t.kind=5))=false:=by simpa using hk
   rw[e,zm,if_neg (fun h=>hk h.1)];rfl
theorem Z4 (s:Bytes) (v:Value) (pb:Nat) (sz:Int) (l:List Tok) (w:World) (h:Psr w pb sz l) (hs:SlAt w v [s].length (strVals [s])):Calls prog 122 #[.pointer (O pb),v] w (TakesRes pb sz s l w):=by
 have C:=tm (Kq [s] v pb sz l w h hs acx);unfold SeesRes at C;rw[Va]at C;have HP:=tm h;clear h hs;unfold TakesRes
 cases htk:tk s l with
 | none=>
  rw[htk]at C;simp only;generalize seesWord l=sw at *;go_enter func122,ntmps122;go_wp2_with fail;refine tp C.out ?_;rintro e w1 ⟨rfl,hb⟩;have HB:=tm hb;clear hb;exact z63
 | some r=>
  rw[htk]at C;simp only;obtain⟨t,rfl⟩:∃t,l=t::r:=by
   cases l with
   | nil=>cases htk
   | cons t q=>
    simp only[tk]at htk;split at htk
    ·cases htk;exact⟨t,rfl⟩
    ·cases htk
  clear htk;generalize seesWord (t::r)=sw at *;go_enter func122,ntmps122;go_wp2_with fail;refine tp C.out ?_;rintro e w1 ⟨rfl,hb⟩;have HP1:=tm (HP.out.kept hb);obtain⟨b,o,cap,H⟩:=HP1.out.head;have HH:=tm H;have HB:=tm hb;have hlb:=HP1.out.lt;refine lq ?_;intro F;have hc:=H.cap1;have S:Hid (StM (·=pb) w1 w1 [(pb,#[.slice (some ⟨b,o,none⟩) (r.length+1) cap,U sz],114)]):=StM.one rfl H.blk;have fin:∀c' q,r.length<=c'->(0<r.length->q=⟨b,o+4,none⟩)->Hid (Psr (w1.setCell ⟨pb,0,none⟩ (.slice (some q) r.length c')) pb sz r/\Turn (·=pb) w (w1.setCell ⟨pb,0,none⟩ (.slice (some q) r.length c'))):=fun c' q hc' hq=>by
   have S:=StM.set 0 (o:=0) (v:=.slice (some q) r.length c') S.out rfl;exact⟨HP1.out.step HH.out S.turn (S.blk 0 rfl) hc' hq,(Turn.of_below HB.out).trans S.turn (fun _ _ h=>h)⟩
  clear H S hb C;by_cases hcap:cap=1
  ·have hr:r.length=0:=acw;rw[hr]at fin;go_wp2_with fail;go_returns;exact⟨rfl,fin _ _ acw (fun h=>absurd h acw)⟩
  ·go_wp2_with fail;go_returns;exact⟨rfl,fin _ _ acw (fun _=>rfl)⟩
theorem L8 (s:Bytes) (pb nb cap:Nat) (sz:Int) (l:List Tok) (w:World) (h:Psr w pb sz l) {t:TypeId} (hs:w.heap[nb]?=some (.cells #[.string (Y s)] t (0,0))) (hc:1<=cap):
 Calls prog 122 #[.pointer (O pb),.slice (O nb) 1 cap] w (TakesRes pb sz s l w):=Z4 s _ pb sz l w h (Ox hs hc)
def Post {α:Type} (pb:Nat) (sz:Int) (Rep:World->α->Value->Prop) (x:Res α) (w:World) (e:Ending) (w':World):Prop:=match x with
 | .ok a l=>∃v,e=.returned v/\Rep w' a v/\Psr w' pb sz l/\Turn (·=pb) w w'
 | .err p x=>Stops pb w p x e w'
def RUnit (_:World) (_:Unit) (v:Value):Prop:=v=.tuple #[]
def RStr (_:World) (s:Bytes) (v:Value):Prop:=v=.string (Y s)
def RInt (_:World) (n:Int) (v:Value):Prop:=v=U n
theorem name_any (pb:Nat) (sz:Int) (l:List Tok) (w:World) (h:Psr w pb sz l):Calls prog 125 #[.pointer (O pb)] w (Post pb sz RStr (nameR sz l) w):=by
 have C:=tm (K4 pb sz 2 l w h);have HP:=tm h;unfold NextRes at C;unfold nameR;clear h
 cases hn:nextR 2 l with
 | none=>
  rw[hn]at C;go_enter func125,ntmps125;go_wp2_with fail;refine tp C.out ?_;rintro e w1 ⟨rfl,hb⟩;have C2:=tm (fun x=>D3 pb sz 380 l _ ((HP.out.kept hb).kept ((uj w1.heap.size w1).alloc (tu _) x)));have HT:=tm (fun x=>Turn.of_below (M:=(·=pb)) (hb.step ((uj w1.heap.size w1).alloc (tu _) x)));clear hb;exact Zl
 | some p=>
  obtain⟨t,r⟩:=p;rw[hn]at C;simp only at C ⊢;go_enter func125,ntmps125;go_wp2_with fail;refine tp C.out ?_;exact Vz
theorem Pt (pb:Nat) (sz:Int) (l:List Tok) (w:World) (h:Psr w pb sz l) (hbig:bigHead l=false):Calls prog 187 #[.pointer (O pb)] w (Post pb sz RInt (numberR sz l) w):=by
 have C:=tm (K4 pb sz 3 l w h);have HP:=tm h;unfold NextRes at C;unfold numberR;rw[hbig];simp only[u9,wy];have hlb:=h.lt;have fin:∀c,(c=true->Hid (∀e w1,NextRes pb sz 3 l w e w1->True)):=fun _ _=>fun _ _ _=>trivial;clear fin;have go:∀(K:Ending->World->Prop),(∀e w1,(match nextR 3 l with
  | some (t,r)=>e=.returned (.tuple #[.agg #[U t.kind,U t.at_,.string (Y t.s),U t.n],.bool true])/\Psr w1 pb sz r/\Turn (·=pb) w w1
  | none=>e=.returned (.tuple #[.agg #[U 0,U 0,eS,U 0],.bool false])/\Below w.heap.size w w1)->K e w1)->Calls prog 186 #[.pointer (O pb),U 3] w K:=fun K hK=>tp C.out hK
 have G:=tm go;clear go C
 cases l with
 | nil=>
  obtain⟨a,cap,h1⟩:=h.nil;have F:=Al h1 [.slice a 0 cap,U sz] 0 (fun j=>acx);simp only[cellFacts,uo]at F;clear h h1 hbig;go_enter func187,ntmps187;go_wp2_with fail;refine G.out _ ?_;rintro e w1 ⟨rfl,hb1⟩;have C2:=tm (fun x=>D3 pb sz 380 [] _ ((HP.out.kept hb1).kept ((uj w1.heap.size w1).alloc (tu _) x)));exact Zp
 | cons t r=>
  obtain⟨b,o,cap,H⟩:=h.head;refine lq ?_;intro F;obtain⟨tk,ta,ts,tn⟩:=t;have t0:=H.c0;have t3:=H.c3;have hc:1<=cap:=by have:=H.cap1;omega
  simp only[bigHead,Bool.and_eq_false_iff,aal]at hbig;clear h H;by_cases hk:tk=3
  ·subst hk;simp only[nextR,if_true]at G ⊢;have hb:decide (549755813887<tn)=false:=by simp;omega
   have hb2:¬549755813887<tn:=acw;clear hbig;go_enter func187,ntmps187;go_wp2_with fail;refine G.out _ ?_;exact Vz
  ·simp only[nextR,if_neg hk]at G ⊢;have k:(tk==3)=false:=by simpa using hk
   clear hbig;go_enter func187,ntmps187;go_wp2_with fail;refine G.out _ ?_;rintro e w1 ⟨rfl,hb1⟩;have C2:=tm (fun x=>D3 pb sz 380 (⟨tk,ta,ts,tn⟩::r) _ ((HP.out.kept hb1).kept ((uj w1.heap.size w1).alloc (tu _) x)));exact Zp
theorem Ho (pb:Nat) (sz:Int) (l:List Tok) (w:World) (h:Psr w pb sz l):Calls prog 187 #[.pointer (O pb)] w (Post pb sz RInt (numberR sz l) w):=by
 cases hbig:bigHead l with
 | false=>exact Pt pb sz l w h hbig
 | true=>
  unfold numberR;rw[hbig,if_pos rfl]
  cases l with
  | nil=>cases hbig
  | cons t r=>
   obtain⟨b,o,cap,H⟩:=h.head;have C:=tm (D3 pb sz 381 _ w h);have hlb:=h.lt;refine lq ?_;intro F;obtain⟨tk,ta,ts,tn⟩:=t;have t0:=H.c0;have t3:=H.c3;have hc:1<=cap:=by have:=H.cap1;omega
   simp only[bigHead,tr,uk]at hbig;obtain⟨rfl,hbig⟩:=hbig;have hb:decide (549755813887<tn)=true:=by simpa using hbig
   clear h H;go_enter func187,ntmps187;go_wp2_with fail;refine tp C.out ?_;rintro e w2 ⟨rfl,ht⟩;exact⟨rfl,rfl,ht⟩
theorem V1 (pb:Nat) (sz:Int) (ws:List Bytes) (v:Value) (l:List Tok) (w:World) (h:Psr w pb sz l) (hv:SlIn (·≠pb) w v ws.length (strVals ws)) (hl:ws.length<=1000000):Calls prog 124 #[.pointer (O pb),v] w (Post pb sz RUnit (wantsR sz ws l) w):=by
 obtain⟨a,cap,rfl,hcap,hcells⟩:=hv;have HC:=tm hcells;have HP:=tm h;clear hcells h;have tvn:∀{k:Nat} {s:Bytes},ws[k]?=some s->(strVals ws)[k]?=some (.string (Y s)):=fun{k s} hk=>by simp[strVals,strV,hk]
 go_enter func124,ntmps124;go_wp2_with fail;go_loopw [8] (fun i wr=>∃(k:Nat) (lr:List Tok),k<=ws.length/\i=U k/\Hid (wantsR sz ws l=wantsR sz (ws.drop k) lr)/\Hid (Psr wr pb sz lr)/\Hid (Turn (·=pb) w wr)) (fun i _=>ws.length - (intOf i).toNat)
 case atStart=>exact⟨0,l,by omega,rfl,rfl,HP.out,Turn.refl _ _⟩
 case round=>
  obtain⟨k,lr,hk,rfl,HK,HPr,HT⟩:=hrel;by_cases hlt:k<ws.length
  ·obtain⟨b,o,rfl,hne,hat⟩:=HC.out acw;obtain⟨s,hs⟩:∃s,ws[k]?=some s:=⟨ws[k],by simp[hlt]⟩;have x:wr.cell? ⟨b,o+k,none⟩=some (.string (Y s)):=(hat.same (HT.out.block b (hat.lt (by intro e;have:=congrArg List.length e;rw[strVals,zr,tx]at this;omega)) hne)) k _ (tvn hs);have hst:wantsR sz (ws.drop k) lr=match tk s lr with
     | some r=>wantsR sz (ws.drop (k+1)) r
     | none=>stopR sz lr 380:=by
    obtain⟨h1,rfl⟩:=uu.1 hs
    rw[ww h1,wantsR]
    rfl
   have hnew:∀os,(wr.alloc os).heap[wr.heap.size]?=some os:=fun os=>World.alloc_heap_new wr os;have C:=tm (L8 s pb wr.heap.size 1 sz lr (wr.alloc (.cells #[.string (Y s)] 9)) (HPr.out.kept ((uj _ _).alloc (tu _) _)) (World.alloc_heap_new wr _) (tu _));unfold TakesRes at C;have HST:Hid (wantsR sz ws l=_):=HK.out.trans hst;have HT1:Hid (Turn (·=pb) w (wr.alloc (.cells #[.string (Y s)] 9))):=HT.out.step ((uj _ _).alloc (tu _) _);clear hst HK hs hat hnew
   cases htk:tk s lr with
   | none=>
    rw[htk]at C HST;have HR:Hid (wantsR sz ws l=stopR sz lr 380):=HST.out;clear HST htk;go_wp2_with fail;refine tp C.out ?_;rintro e w1 ⟨rfl,hb⟩;replace C:=tm (D3 pb sz 380 lr w1 ((HPr.out.kept ((uj _ _).alloc (tu _) _)).kept hb));have HT2:=tm (HT1.out.step hb);clear hb x;go_wp2_with fail;refine tp C.out ?_;rintro e w2 ⟨rfl,ht⟩;refine⟨rfl,?_⟩;rw[HR.out];exact⟨rfl,HT2.out.trans ht (fun _ _ h=>h)⟩
   | some r=>
    rw[htk]at C HST;have HR:Hid (wantsR sz ws l=wantsR sz (ws.drop (k+1)) r):=HST.out;clear HST htk;go_wp2_with fail;refine tp C.out ?_;rintro e w1 ⟨rfl,hp,ht⟩;have HP1:=tm hp;have HT2:=tm (HT1.out.trans ht (fun _ _ h=>h));clear hp ht C x;go_wp2_with fail;go_roundw
    case rel=>exact⟨k+1,r,by omega,rfl,HR.out,HP1.out,HT2.out⟩
    case measure=>simp[intOf];omega
  ·obtain rfl:k=ws.length:=acw;go_wp2_with fail;go_returns;rw[HK.out,aaj];exact⟨_,rfl,rfl,HPr.out,HT.out⟩
structure PFr (pb:Nat) (sz:Int) (w0 w:World) (L:List Blk) (l:List Tok):Prop where
 lt:pb<w0.heap.size
 st:StM (·=pb) w0 w L
 own:∀x∈L,w0.heap.size<=x.1
 psr:Psr w pb sz l
variable {pb:Nat} {sz:Int} {w0 w w':World} {L:List Blk} {l:List Tok}
theorem PFr.start (h:Psr w pb sz l):PFr pb sz w w [] l:=⟨h.lt,StM.start _ _,by simp,h⟩
theorem PFr.turn (h:PFr pb sz w0 w L l):Turn (·=pb) w0 w:=h.st.turn
theorem PFr.facts (h:PFr pb sz w0 w L l):St.Facts w L:=h.st.facts
theorem PFr.size (h:PFr pb sz w0 w L l):w0.heap.size<=w.heap.size:=h.st.turn.size
theorem PFr.kept (h:PFr pb sz w0 w L l) (hb:Below w.heap.size w w'):PFr pb sz w0 w' L l:=⟨h.lt,h.st.kept hb,h.own,h.psr.kept hb⟩
theorem PFr.laid {o:Obj} (h:PFr pb sz w0 w L l):PFr pb sz w0 (w.alloc o) L l:=h.kept ((uj _ _).alloc (tu _) o)
theorem PFr.alloc {cs:Array Value} {t:TypeId} (h:PFr pb sz w0 w L l):PFr pb sz w0 (w.alloc (.cells cs t)) ((w.heap.size,cs,t)::L) l:=
 ⟨h.lt,StM.alloc h.st,fun x hx=>by
  rcases uw.1 hx with rfl|hx
  ·exact h.size
  ·exact h.own x hx,h.psr.kept ((uj _ _).alloc (tu _) _)⟩
theorem PFr.blk (h:PFr pb sz w0 w L l) (i:Nat) {b:Nat} {cs:Array Value} {t:TypeId} (hi:L[i]?=some (b,cs,t)):w.heap[b]?=some (.cells cs t (0,0)):=h.st.blk i hi
theorem PFr.ge (h:PFr pb sz w0 w L l) (i:Nat) {b:Nat} {cs:Array Value} {t:TypeId} (hi:L[i]?=some (b,cs,t)):w0.heap.size<=b:=h.own _ (uq hi)
theorem PFr.set (i:Nat) {b o:Nat} {cs:Array Value} {t:TypeId} {v:Value} (h:PFr pb sz w0 w L l) (hi:L[i]?=some (b,cs,t)):PFr pb sz w0 (w.setCell ⟨b,o,none⟩ v) (L.set i (b,cs.setIfInBounds o v,t)) l:=by
 have hge:=h.ge i hi;refine⟨h.lt,StM.set i h.st hi,fun x hx=>?_,h.psr.turned (M:=(·=b)) ((Turn.refl _ w).setCell (.inl rfl)) (fun k hk=>by have:=h.lt;have hk':k=b:=hk;omega)⟩;rcases wu hx with hx|rfl
 ·exact h.own x hx
 ·exact hge
theorem PFr.row (i:Nat) {b:Nat} {cs:Array Value} {t:TypeId} (vs:Array Value) (h:PFr pb sz w0 w L l) (hi:L[i]?=some (b,cs,t)):PFr pb sz w0 (w.setRow b vs) (L.set i (b,vs,t)) l:=by
 have hge:=h.ge i hi;refine⟨h.lt,StM.row i vs h.st hi,fun x hx=>?_,h.psr.turned (M:=(·=b)) ((Turn.refl _ w).setRow (.inl rfl)) (fun k hk=>by have:=h.lt;have hk':k=b:=hk;omega)⟩;rcases wu hx with hx|rfl
 ·exact h.own x hx
 ·exact hge
theorem PFr.tail {x:Blk} (h:PFr pb sz w0 w (x::L) l):PFr pb sz w0 w L l:=⟨h.lt,h.st.tail,fun y hy=>h.own y (zk _ hy),h.psr⟩
theorem PFr.went {r:List Tok} (h:PFr pb sz w0 w L l) (ht:Turn (·=pb) w w') (hp:Psr w' pb sz r):PFr pb sz w0 w' L r:=
 ⟨h.lt,h.st.turned ht (fun _ _ h=>h) (fun x hx e=>by have h1:=h.own x hx;have h2:=h.lt;have e':x.1=pb:=e;omega),h.own,hp⟩
theorem PFr.gen {P:Program} {c:Code} {Q:Exit->Act->World->Prop} {a:Act} (h:PFr pb sz w0 w L l) (k:∀W,Hid (PFr pb sz w0 W L l)->Code.wp P c Q a W):Code.wp P c Q a w:=k w h
theorem PFr.genL {P:Program} {ops:Array Oper} {ol:List Oper} {Q:Exit->Act->World->Prop} {a:Act} (h:PFr pb sz w0 w L l) (k:∀W,Hid (PFr pb sz w0 W L l)->wpList P ops Q ol a W):wpList P ops Q ol a w:=k w h
theorem PFr.takes (S:PFr pb sz w0 w L l) (s:Bytes) {nb cap:Nat} {t:TypeId} {K:Ending->World->Prop} (hs:w.heap[nb]?=some (.cells #[.string (Y s)] t (0,0))) (hc:1<=cap) (hyes:∀r w',tk s l=some r->Turn (·=pb) w w'->Hid (PFr pb sz w0 w' L r)->K (.returned (.bool true)) w') (hno:∀w',tk s l=none->Turn (·=pb) w w'->Hid (PFr pb sz w0 w' L l)->K (.returned (.bool false)) w'):Calls prog 122 #[.pointer (O pb),.slice (O nb) 1 cap] w K:=by
 refine tp (L8 s pb nb cap sz l w S.psr hs hc) ?_;intro e w' h;unfold TakesRes at h
 cases htk:tk s l with
 | none=>
  rw[htk]at h;obtain⟨rfl,hb⟩:=h;exact hno w' htk (Turn.of_below hb) (S.kept hb)
 | some r=>
  rw[htk]at h;obtain⟨rfl,hp,ht⟩:=h;exact hyes r w' htk ht (S.went ht hp)
theorem PFr.next (S:PFr pb sz w0 w L l) (k:Int) {K:Ending->World->Prop} (hyes:∀t r w',nextR k l=some (t,r)->Turn (·=pb) w w'->Hid (PFr pb sz w0 w' L r)->K (.returned (.tuple #[.agg #[U t.kind,U t.at_,.string (Y t.s),U t.n],.bool true])) w') (hno:∀w',nextR k l=none->Turn (·=pb) w w'->Hid (PFr pb sz w0 w' L l)->K (.returned (.tuple #[.agg #[U 0,U 0,eS,U 0],.bool false])) w'):Calls prog 186 #[.pointer (O pb),U k] w K:=by
 refine tp (K4 pb sz k l w S.psr) ?_;intro e w' h;unfold NextRes at h
 cases hn:nextR k l with
 | none=>
  rw[hn]at h;obtain⟨rfl,hb⟩:=h;exact hno w' hn (Turn.of_below hb) (S.kept hb)
 | some p=>
  obtain⟨t,r⟩:=p;rw[hn]at h;obtain⟨rfl,hp,ht⟩:=h;exact hyes t r w' hn ht (S.went ht hp)
theorem PFr.post {α β:Type} {f:FuncId} {args:Array Value} {Rep:World->α->Value->Prop} {Rep2:World->β->Value->Prop} {x:Res α} {y:Res β} {K:Ending->World->Prop} (S:PFr pb sz w0 w L l) (C:Calls prog f args w (Post pb sz Rep x w)) (herr:∀p q,x=.err p q->y=.err p q) (hK:∀c w',Post pb sz Rep2 y w0 (.panicked c) w'->K (.panicked c) w') (hok:∀a r v w',x=.ok a r->Rep w' a v->Turn (·=pb) w w'->Hid (PFr pb sz w0 w' L r)->K (.returned v) w'):Calls prog f args w K:=by
 refine tp C ?_;intro e w' h
 cases x with
 | ok a r=>
  obtain⟨v,rfl,hv,hp,ht⟩:=h;exact hok a r v w' rfl hv ht (S.went ht hp)
 | err p q=>
  obtain⟨rfl,ht⟩:=h;refine hK _ _ ?_;rw[herr p q rfl];exact⟨rfl,S.turn.trans ht (fun _ _ h=>h)⟩
theorem PFr.stop {β:Type} {Rep2:World->β->Value->Prop} {y:Res β} {K:Ending->World->Prop} (S:PFr pb sz w0 w L l) (q:Int) (hy:y=stopR sz l q) (hK:∀c w',Post pb sz Rep2 y w0 (.panicked c) w'->K (.panicked c) w'):Calls prog 55 #[.pointer (O pb),U q] w K:=by
 refine tp (D3 pb sz q l w S.psr) ?_;rintro e w' ⟨rfl,ht⟩;refine hK _ _ ?_;rw[hy];exact⟨rfl,S.turn.trans ht (fun _ _ h=>h)⟩
theorem PFr.done {α:Type} {Rep:World->α->Value->Prop} {y:Res α} {a:α} {v:Value} (S:PFr pb sz w0 w L l) (hy:y=.ok a l) (hv:Rep w a v):Post pb sz Rep y w0 (.returned v) w:=by
 rw[hy];exact⟨v,rfl,hv,S.psr,S.turn⟩
def RExF (B:Nat) (w:World) (e:Ex) (v:Value):Prop:=∃cs,v=.agg cs.toArray/\ExIn (B≤·) w e cs
def RVal (_:World) (x:V) (v:Value):Prop:=v=.agg #[U x.k,U x.n,.string x.s]
theorem blk_at {w:World} {o:Obj} {n:Nat} (h:n=w.heap.size):(w.alloc o).heap[n]?=some o:=by subst h;exact World.alloc_heap_new _ _
theorem Bt {α:Type} {C:α->Prop} (x:α) (h:∀y,Hid (y=x)->C y):C x:=h x rfl
theorem Gr (pb:Nat) (sz:Int) (l:List Tok) (w:World) (h:Psr w pb sz l):Calls prog 135 #[.pointer (O pb)] w (Post pb sz RVal (literalR sz l) w):=by
 have S:=tm (PFr.start h);clear h;refine Bt (C:=fun y=>Calls prog 135 _ w (Post pb sz RVal y w)) _ ?_;intro y HM;unfold literalR at HM;go_enter func135,ntmps135;go_wp2_with fail;refine(PFr.alloc S.out).next 4 ?_ ?_
 ·intro t r w1 hn _ S;have HM1:Hid (y=.ok ⟨2,0,⟨t.s.toArray⟩⟩ r):=by show _=_;rw[HM.out,hn]
  clear HM hn;refine z1003 ?_;intro F;refine ue (v:=.agg #[U 2,U 0,.string (Y t.s)]) (by simp[results,results135,go_sem,F]) rfl ?_;exact PFr.done (PFr.laid (PFr.set 0 (PFr.set 0 (PFr.set 0 (S.out) rfl) rfl) rfl)) HM1.out rfl
 ·intro w1 hn _ S;have HM1:=HM.out;rw[hn]at HM1;replace HM1:=tm HM1;clear HM hn;go_wp2_with fail;refine PFr.takes (PFr.laid (PFr.laid (S.out))) [45] (blk_at acx) acy ?_ ?_
  ·intro r w2 hn _ S;have HM2:=HM1.out;rw[hn]at HM2;replace HM2:=tm HM2;clear HM1 hn;go_wp2_with fail;refine S.out.next 3 ?_ ?_
   ·intro t r3 w3 hn _ S3;have HM3:=HM2.out;simp only[hn]at HM3;replace HM3:=tm HM3;have hf:=S.out.psr.fine t (by have:=Ez hn;rw[this.1];simp);have hw:wrap64 (-t.n)= -t.n:=IntWalk.wrap64_in _ ⟨by omega,by omega⟩;clear HM2 hn hf;have F:=S3.out.facts;refine z25 ?_;clear F;intro F;go_wp2_with fail;refine ue (v:=.agg #[U 1,U (-t.n),eS]) (by simp[results,results135,go_sem,F]) rfl ?_;exact PFr.done (PFr.laid (PFr.set 0 (PFr.set 0 (PFr.set 0 (S3.out) rfl) rfl) rfl)) HM3.out rfl
   ·intro w3 hn _ S;have HM3:=HM2.out;simp only[hn]at HM3;replace HM3:=tm HM3;clear HM2 hn;go_wp2_with fail;exact PFr.stop (PFr.laid (S.out)) 380 HM3.out (fun _ _ h=>⟨rfl,h⟩)
  ·intro w2 hn _ S;have HM2:=HM1.out;simp only[hn]at HM2;replace HM2:=tm HM2;clear HM1 hn;go_wp2_with fail;refine PFr.takes (PFr.laid (S.out)) [110,117,108,108] (blk_at acx) acy ?_ ?_
   ·intro r w3 hn _ S;have HM3:=HM2.out;simp only[hn]at HM3;replace HM3:=tm HM3;clear HM2 hn;refine z1003 ?_;intro F;refine ue (v:=.agg #[U 0,U 0,eS]) (by simp[results,results135,go_sem,F]) rfl ?_;exact PFr.done (PFr.set 0 (PFr.set 0 (PFr.set 0 (S.out) rfl) rfl) rfl) HM3.out rfl
   ·intro w3 hn _ S;have HM3:=HM2.out;simp only[hn]at HM3;replace HM3:=tm HM3;clear HM2 hn;go_wp2_with fail;refine PFr.takes (PFr.laid (S.out)) [116,114,117,101] (blk_at acx) acy ?_ ?_
    ·intro r w4 hn _ S;have HM4:=HM3.out;simp only[hn]at HM4;replace HM4:=tm HM4;clear HM3 hn;refine z1003 ?_;intro F;refine ue (v:=.agg #[U 3,U 1,eS]) (by simp[results,results135,go_sem,F]) rfl ?_;exact PFr.done (PFr.set 0 (PFr.set 0 (PFr.set 0 (S.out) rfl) rfl) rfl) HM4.out rfl
    ·intro w4 hn _ S;have HM4:=HM3.out;simp only[hn]at HM4;replace HM4:=tm HM4;clear HM3 hn;go_wp2_with fail;refine PFr.takes (PFr.laid (S.out)) [102,97,108,115,101] (blk_at acx) acy ?_ ?_
     ·intro r w5 hn _ S;have HM5:=HM4.out;simp only[hn]at HM5;replace HM5:=tm HM5;clear HM4 hn;refine z1003 ?_;intro F;refine ue (v:=.agg #[U 3,U 0,eS]) (by simp[results,results135,go_sem,F]) rfl ?_;exact PFr.done (PFr.set 0 (PFr.set 0 (PFr.set 0 (S.out) rfl) rfl) rfl) HM5.out rfl
     ·intro w5 hn _ S;have HM5:=HM4.out;simp only[hn]at HM5;replace HM5:=tm HM5;clear HM4 hn;go_wp2_with fail;refine PFr.post S.out (Ho pb sz _ _ S.out.psr) (fun p q h=>by rw[HM5.out,h];rfl) (fun _ _ h=>⟨rfl,h⟩) ?_;intro n r6 v6 w6 h6 hv _ S;have HM6:Hid (y=.ok ⟨1,n,⟨#[]⟩⟩ r6):=by show _=_;rw[HM5.out,h6];rfl
      clear HM5 h6;obtain rfl:=hv;refine z1003 ?_;intro F;refine ue (v:=.agg #[U 1,U n,eS]) (by simp[results,results135,go_sem,F]) rfl ?_;exact PFr.done (PFr.set 0 (PFr.set 0 (PFr.set 0 (S.out) rfl) rfl) rfl) HM6.out rfl
end
theorem rEx_mk {B:Nat} {w:World} {op:Int} {t n:Bytes} {v:V} {args:List Ex} {a:Value} (h:ExSl (B≤·) w a args):RExF B w (.mk op t n v args) (.agg #[U op,.string (Y t),.string (Y n),U v.k,U v.n,.string v.s,a]):=
 ⟨_,rfl,Bc h⟩
theorem Bm {B:Nat} {w:World} {op:Int} {t n:Bytes} {v:V} {args:List Ex} {x:Value} (h:RExF B w (.mk op t n v args) x):∃ad cap,x=.agg #[U op,.string (Y t),.string (Y n),U v.k,U v.n,.string v.s,.slice ad args.length cap]/\ExSl (B≤·) w (.slice ad args.length cap) args:=by
 obtain⟨cs,rfl,h⟩:=h;obtain⟨a,e,h2⟩:=Ds h;obtain⟨acs,⟨ad,cap,rfl,hc,h3⟩,h4⟩:=h2;exact⟨ad,cap,by rw[e],acs,⟨ad,cap,rfl,hc,h3⟩,h4⟩
theorem Bq {M:Nat->Prop} {W:World} (p:TurnW M W) {b o:Nat} {v:Value} (h:W.cell? ⟨b,o,none⟩=some v) (hM:¬M b):p.w.cell? ⟨b,o,none⟩=some v:=by
 rw[aau (a:=⟨b,o,none⟩) (p.h.block b (vp h) hM)];exact h
theorem Vd (pb:Nat) (sz:Int) (l:List Tok) (w:World) (h:Psr w pb sz l):Calls prog 192 #[.pointer (O pb)] w (Post pb sz (RExF w.heap.size) (refR sz l) w):=by
 have S:=tm (PFr.start h);clear h;refine Bt (C:=fun y=>Calls prog 192 _ w (Post pb sz (RExF w.heap.size) y w)) _ ?_;intro y HM;unfold refR at HM;go_enter func192,ntmps192;go_wp2_with fail;refine PFr.post (PFr.alloc (S.out)) (name_any pb sz _ _ ((PFr.alloc (S.out))).psr) (fun p q h=>by rw[HM.out,h];try rfl) (fun _ _ h=>⟨rfl,h⟩) ?_;intro a r v1 w1 h1 hv ht S;refine z52 ?_;intro HM;clear h1;obtain rfl:=hv;refine z1076 ?_;intro F;have hlt:w.heap.size<w1.heap.size:=F.1;go_wp2_with fail;refine PFr.takes (PFr.laid (PFr.alloc (S.out))) [46] (blk_at acx) acy ?_ ?_
 ·skip;intro r w2 hn ht S;refine z128 ?_;clear hn;intro HM;refine z1003 ?_;intro F;have y0:∀p:TurnW (·=pb) w2,p.w.cell? ⟨w1.heap.size,2,none⟩=some (.string (Y a)):=fun p=>Bq p F.2.1.2.2.1.1 (by have:=S.out.lt;omega);refine Av (·=pb) (fun c w'=>Post pb sz (RExF w.heap.size) y w (.panicked c) w') (fun _ _ _ hd h=>⟨hd,h⟩) 5 [(0,false),(1,false),(2,false),(4,false),(3,true)] acz acz ?_;refine adr ?_;refine acm rfl rfl ?_;intro w3 hb ht;have S:=tm (S.out.kept hb);have HT:=tm ht;clear hb ht y0 F;go_wp2_with fail;refine PFr.post S.out (name_any pb sz _ _ S.out.psr) (fun p q h=>by rw[HM.out,h];try rfl) (fun _ _ h=>h) ?_;intro a4 r v4 w4 h4 hv ht S;replace HM:=HM.out;rw[h4]at HM;refine qy ?_;clear HM;intro HM;clear h4;obtain rfl:=hv;go_wp2_with fail;refine⟨HT.out.trans ht (fun _ _ h=>h),B8 ?_⟩;intro w5 hb _;have S:=tm (S.out.kept hb);clear hb HT ht;refine z1076 ?_;intro F;refine z279 ?_;go_wp2_with fail;refine ue (v:=.agg #[U 1,.string (Y a),.string (Y a4),U 0,U 0,eS,eL]) (by simp[results,results192,go_sem,F]) rfl ?_;exact PFr.done (PFr.set 1 (PFr.set 1 (PFr.set 1 (PFr.set 1 (PFr.set 1 (PFr.set 1 (PFr.set 1 (PFr.set 0 (PFr.set 0 (S.out) rfl) rfl) rfl) rfl) rfl) rfl) rfl) rfl) rfl) HM.out (rEx_mk (ExSl.nil _ _))
 ·skip;intro w2 hn ht S;refine z128 ?_;clear hn;intro HM;refine z1003 ?_;intro F;refine ue (v:=.agg #[U 1,eS,.string (Y a),U 0,U 0,eS,eL]) (by simp[results,results192,go_sem,F]) rfl ?_;exact PFr.done (PFr.set 1 (PFr.set 1 (PFr.set 1 (PFr.set 1 (PFr.set 1 (PFr.set 1 (PFr.set 1 (S.out) rfl) rfl) rfl) rfl) rfl) rfl) rfl) HM.out (rEx_mk (ExSl.nil _ _))
end Go.Proofs.YtimoefagohifaaaGreatDoor
