/- Part 1; the last part says what is proved. No condition. -/
import Derived.Test.YtjmmbebkbkgefaaGreatDoorB00
set_option linter.unusedVariables false
set_option linter.unusedSimpArgs false
namespace Go.Proofs.YtjmmbebkbkgefaaGreatDoor
open Tryz
structure Tok where
 kind:Int
 at_:Int
 s:Bytes
 n:Int
 deriving DecidableEq
inductive Ex where
 | mk (op:Int) (table name:Bytes) (val:V) (args:List Ex)
def Ex.op:Ex->Int|.mk o _ _ _ _=>o
def Ex.table:Ex->Bytes|.mk _ t _ _ _=>t
def Ex.name:Ex->Bytes|.mk _ _ n _ _=>n
def Ex.val:Ex->V|.mk _ _ _ v _=>v
def Ex.args:Ex->List Ex|.mk _ _ _ _ l=>l
def Ex.zero:Ex:=.mk 0 [] [] V.null []
structure Pk where
 fn:Int
 arg:Ex
structure Srt where
 place:Int
 down:Bool
 deriving DecidableEq
structure Sel where
 distinct:Bool
 items:List Pk
 from_:List Bytes
 on:List Ex
 where_:Ex
 group:List Ex
 sort:List Srt
 limit:Int
def Sel.zero:Sel:=⟨false,[],[],[],Ex.zero,[],[],0⟩
structure Col where
 name:Bytes
 kind:Int
 null:Bool
 deriving DecidableEq
def Col.zero:Col:=⟨[],0,false⟩
structure Idx where
 name:Bytes
 cols:List Int
 unique:Bool
 deriving DecidableEq
structure Chk where
 col:Int
 op:Int
 val:V
 deriving DecidableEq
structure Tbl where
 name:Bytes
 cols:List Col
 indexes:List Idx
 checks:List Chk
def Tbl.zero:Tbl:=⟨[],[],[],[]⟩
structure Stm where
 kind:Int
 table:Bytes
 name:Bytes
 schema:Tbl
 column:Col
 names:List Bytes
 unique:Bool
 rows:List (List V)
 exprs:List Ex
 where_:Ex
 select:Sel
 mode:Int
def Stm.zero:Stm:=⟨0,[],[],Tbl.zero,Col.zero,[],false,[],[],Ex.zero,Sel.zero,0⟩
inductive Res (α:Type) where
 | ok (a:α) (r:List Tok)
 | err (at_:Int) (x:Int)
def Res.bind {α β:Type} (x:Res α) (f:α->List Tok->Res β):Res β:=match x with
 | .ok a r=>f a r
 | .err p e=>.err p e
def Res.map {α β:Type} (x:Res α) (f:α->β):Res β:=match x with
 | .ok a r=>.ok (f a) r
 | .err p e=>.err p e
def headAt (sz:Int):List Tok->Int
 | []=>sz
 | t::_=>t.at_
def stopR {α:Type} (sz:Int) (l:List Tok) (x:Int):Res α:=.err (headAt sz l) x
def seesWord:List Tok->Bytes
 | []=>[]
 | t::_=>if t.kind=1\/t.kind=5 then t.s else[]
def tk (w:Bytes):List Tok->Option (List Tok)
 | []=>none
 | t::r=>if(t.kind=1\/t.kind=5)/\t.s=w then some r else none
def wantsR (sz:Int):List Bytes->List Tok->Res Unit
 | [],l=>.ok () l
 | w::ws,l=>match tk w l with
  | some r=>wantsR sz ws r
  | none=>stopR sz l 380
def nextR (k:Int):List Tok->Option (Tok×List Tok)
 | []=>none
 | t::r=>if t.kind=k then some (t,r)else none
def nameR (sz:Int) (l:List Tok):Res Bytes:=match nextR 2 l with
 | some (t,r)=>.ok t.s r
 | none=>stopR sz l 380
def bigHead:List Tok->Bool
 | []=>false
 | t::_=>decide (t.kind=3)&&decide (549755813887<t.n)
def numberR (sz:Int) (l:List Tok):Res Int:=
 if bigHead l then stopR sz l 381 else match nextR 3 l with
 | some (t,r)=>.ok t.n r
 | none=>stopR sz l 380
def literalR (sz:Int) (l:List Tok):Res V:=match nextR 4 l with
 | some (t,r)=>.ok ⟨2,0,⟨t.s.toArray⟩⟩ r
 | none=>match tk [45] l with
  | some r=>(match nextR 3 r with
   | some (t,r2)=>.ok ⟨1,-t.n,⟨#[]⟩⟩ r2
   | none=>stopR sz r 380)
  | none=>match tk [110,117,108,108] l with
   | some r=>.ok V.null r
   | none=>match tk [116,114,117,101] l with
    | some r=>.ok ⟨3,1,⟨#[]⟩⟩ r
    | none=>match tk [102,97,108,115,101] l with
     | some r=>.ok ⟨3,0,⟨#[]⟩⟩ r
     | none=>(numberR sz l).map fun n=>⟨1,n,⟨#[]⟩⟩
def colEx (table name:Bytes):Ex:=.mk 1 table name V.null []
def valEx (v:V):Ex:=.mk 2 [] [] v []
def opEx (op:Int) (l:List Ex):Ex:=.mk op [] [] V.null l
def refR (sz:Int) (l:List Tok):Res Ex:=(nameR sz l).bind fun a l1=>match tk [46] l1 with
 | some l2=>(nameR sz l2).map fun b=>colEx a b
 | none=>.ok (colEx [] a) l1
def opTab:List (Bytes×Int×Int):=
 [([111,114],13,0),([97,110,100],12,1),([61],6,3),([60,62],7,3),([60],8,3),([60,61],9,3),([62],10,3),([62,61],11,3),([43],3,4),([45],4,4),([42],5,5)]
def opOf (w:Bytes):Option (Int×Int):=(opTab.find? fun x=>x.1=w).map (·.2)
def opPair (w:Bytes):Int×Int:=(opOf w).getD (0,0)
def headIs (k:Int):List Tok->Bool
 | []=>false
 | t::_=>decide (t.kind=k)
def isNullR (sz:Int) (e:Ex) (l:List Tok):Res Ex:=match tk [105,115] l with
 | none=>.ok e l
 | some l1=>match tk [110,111,116] l1 with
  | some l2=>(wantsR sz [[110,117,108,108]] l2).map fun _=>opEx 14 [opEx 15 [e]]
  | none=>(wantsR sz [[110,117,108,108]] l1).map fun _=>opEx 15 [e]
mutual
def exprF (sz:Int):Nat->Nat->List Tok->Option (Res Ex)
 | 0,_,_=>none
 | f+1,lev,l=>
  if lev=2 then
   match tk [110,111,116] l with
   | some r=>(exprF sz f 2 r).map fun x=>x.map fun e=>opEx 14 [e]
   | none=>exprF sz f 3 l
  else if lev=3 then
   match exprF sz f 4 l with
   | none=>none
   | some (.err p e)=>some (.err p e)
   | some (.ok e l1)=>
    if(opPair (seesWord l1)).2=3 then
     (exprF sz f 4 l1.tail).map fun x=>x.map fun e2=>opEx (opPair (seesWord l1)).1 [e,e2]
    else some (isNullR sz e l1)
  else if lev=6 then
   match tk [40] l with
   | some r=>(match exprF sz f 0 r with
    | none=>none
    | some (.err p e)=>some (.err p e)
    | some (.ok e l1)=>some ((wantsR sz [[41]] l1).map fun _=>e))
   | none=>some (if headIs 2 l then refR sz l else(literalR sz l).map valEx)
  else
   match exprF sz f (lev+1) l with
   | none=>none
   | some (.err p e)=>some (.err p e)
   | some (.ok e l1)=>chainF sz f lev e l1
def chainF (sz:Int):Nat->Nat->Ex->List Tok->Option (Res Ex)
 | 0,_,_,_=>none
 | f+1,lev,e,l=>
  match opOf (seesWord l)with
  | none=>some (.ok e l)
  | some (op,lv)=>
   if lv≠(lev:Int)then some (.ok e l)
   else match exprF sz f (lev+1) l.tail with
    | none=>none
    | some (.err p x)=>some (.err p x)
    | some (.ok e2 l2)=>chainF sz f lev (opEx op [e,e2]) l2
end
def exprFuel (lev:Nat) (l:List Tok):Nat:=10 * l.length+9 - lev
def exprR (sz:Int) (lev:Nat) (l:List Tok):Res Ex:=(exprF sz (exprFuel lev l) lev l).getD (.err 0 0)
def anyR (sz:Int) (l:List Tok):Res Ex:=exprR sz 0 l
def whereR (sz:Int) (l:List Tok):Res Ex:=match tk [119,104,101,114,101] l with
 | some r=>anyR sz r
 | none=>.ok Ex.zero l
def moreR {α:Type} (read:List Tok->Res α):Nat->List α->List Tok->Res (List α)
 | 0,acc,l=>.ok acc l
 | f+1,acc,l=>match tk [44] l with
  | some r=>(read r).bind fun a l1=>moreR read f (acc++[a]) l1
  | none=>.ok acc l
def listR {α:Type} (read:List Tok->Res α) (l:List Tok):Res (List α):=(read l).bind fun a l1=>moreR read l1.length [a] l1
def insideR {α:Type} (sz:Int) (read:List Tok->Res α) (l:List Tok):Res α:=
 (wantsR sz [[40]] l).bind fun _ l1=>(read l1).bind fun a l2=>(wantsR sz [[41]] l2).map fun _=>a
def columnR (sz:Int) (l:List Tok):Res Col:=(nameR sz l).bind fun nm l1=>
 (match tk [105,110,116] l1 with
  | some r=>.ok (1:Int) r
  | none=>match tk [116,101,120,116] l1 with
   | some r=>.ok 2 r
   | none=>(wantsR sz [[98,111,111,108]] l1).map fun _=>3:Res Int).bind fun k l2=>match tk [110,111,116] l2 with
  | some r=>(wantsR sz [[110,117,108,108]] r).map fun _=>⟨nm,k,false⟩
  | none=>.ok ⟨nm,k,true⟩ l2
def colIdx (nm:Bytes) (l:List Col):Option Nat:=l.findIdx? fun c=>c.name=nm
def checkColR (sz:Int) (cols:List Col) (l:List Tok):Res Int:=match nextR 2 l with
 | some (t,_)=>(match colIdx t.s cols with
  | some k=>.ok (k:Int) l
  | none=>stopR sz l 5)
 | none=>.ok 0 l
def checkR (sz:Int) (cols:List Col) (l:List Tok):Res Chk:=
 (wantsR sz [[99,104,101,99,107],[40]] l).bind fun _ l1=>(checkColR sz cols l1).bind fun k l2=>(nameR sz l2).bind fun _ l3=>
  if(opPair (seesWord l3)).2≠3 then stopR sz l3 380
  else(literalR sz l3.tail).bind fun v l4=>(wantsR sz [[41]] l4).map fun _=>⟨k,(opPair (seesWord l3)).1,v⟩
def tableMore (sz:Int):Nat->List Col->List Chk->List Tok->Res (List Col×List Chk)
 | 0,cols,checks,l=>.ok (cols,checks) l
 | f+1,cols,checks,l=>match tk [44] l with
  | none=>.ok (cols,checks) l
  | some r=>
   if(tk [99,104,101,99,107] r).isSome||decide (0<checks.length)then(checkR sz cols r).bind fun x l1=>tableMore sz f cols (checks++[x]) l1
   else if headIs 2 r then(columnR sz r).bind fun c l1=>tableMore sz f (cols++[c]) checks l1
   else stopR sz r 380
def tableR (sz:Int) (l:List Tok):Res Tbl:=
 (nameR sz l).bind fun nm l1=>(wantsR sz [[40]] l1).bind fun _ l2=>(columnR sz l2).bind fun c l3=>
  (tableMore sz l3.length [c] [] l3).bind fun cc l4=>(wantsR sz [[41]] l4).map fun _=>⟨nm,cc.1,[],cc.2⟩
def itemR (sz:Int) (l:List Tok):Res Pk:=match tk [99,111,117,110,116] l with
 | some r=>(wantsR sz [[40],[42],[41]] r).map fun _=>⟨1,Ex.zero⟩
 | none=>match tk [115,117,109] l with
  | some r=>(insideR sz (anyR sz) r).map fun e=>⟨2,e⟩
  | none=>match tk [109,105,110] l with
   | some r=>(insideR sz (anyR sz) r).map fun e=>⟨3,e⟩
   | none=>match tk [109,97,120] l with
    | some r=>(insideR sz (anyR sz) r).map fun e=>⟨4,e⟩
    | none=>(anyR sz l).map fun e=>⟨0,e⟩
def sortR (sz:Int) (l:List Tok):Res Srt:=(numberR sz l).bind fun n l1=>match tk [97,115,99] l1 with
 | some r=>.ok ⟨n,false⟩ r
 | none=>match tk [100,101,115,99] l1 with
  | some r=>.ok ⟨n,true⟩ r
  | none=>.ok ⟨n,false⟩ l1
def joinsR (sz:Int):Nat->List Bytes->List Ex->List Tok->Res (List Bytes×List Ex)
 | 0,fr,on,l=>.ok (fr,on) l
 | f+1,fr,on,l=>match tk [106,111,105,110] l with
  | none=>.ok (fr,on) l
  | some r=>(nameR sz r).bind fun nm l1=>(wantsR sz [[111,110]] l1).bind fun _ l2=>(anyR sz l2).bind fun e l3=>joinsR sz f (fr++[nm]) (on++[e]) l3
def byR {α:Type} (sz:Int) (w:Bytes) (read:List Tok->Res α) (l:List Tok):Res (List α):=match tk w l with
 | some r=>(wantsR sz [[98,121]] r).bind fun _ l1=>listR read l1
 | none=>.ok [] l
def limitR (sz:Int) (l:List Tok):Res Int:=match tk [108,105,109,105,116] l with
 | some r=>numberR sz r
 | none=>.ok (-1) l
def optR (w:Bytes) (l:List Tok):Bool×List Tok:=match tk w l with
 | some r=>(true,r)
 | none=>(false,l)
def itemsR (sz:Int) (l:List Tok):Res (List Pk):=match tk [42] l with
 | some r=>.ok [] r
 | none=>listR (itemR sz) l
def chooseR (sz:Int) (l:List Tok):Res Sel:=
 (itemsR sz (optR [100,105,115,116,105,110,99,116] l).2).bind fun items l2=>(wantsR sz [[102,114,111,109]] l2).bind fun _ l3=>(nameR sz l3).bind fun nm l4=>
  (joinsR sz l4.length [nm] [] l4).bind fun fo l5=>(whereR sz l5).bind fun wh l6=>(byR sz [103,114,111,117,112] (refR sz) l6).bind fun gr l7=>
   (byR sz [111,114,100,101,114] (sortR sz) l7).bind fun so l8=>(limitR sz l8).map fun n=>⟨(optR [100,105,115,116,105,110,99,116] l).1,items,fo.1,fo.2,wh,gr,so,n⟩
def createIndexR (sz:Int) (u:Bool) (l:List Tok):Res Stm:=
 (wantsR sz [[105,110,100,101,120]] l).bind fun _ l1=>(nameR sz l1).bind fun nm l2=>(wantsR sz [[111,110]] l2).bind fun _ l3=>(nameR sz l3).bind fun tb l4=>
  (insideR sz (listR (nameR sz)) l4).map fun ns=>{Stm.zero with kind:=4,unique:=u,name:=nm,table:=tb,names:=ns}
def dropIndexR (sz:Int) (l:List Tok):Res Stm:=
 (wantsR sz [[105,110,100,101,120]] l).bind fun _ l1=>(nameR sz l1).bind fun nm l2=>(wantsR sz [[111,110]] l2).bind fun _ l3=>
  (nameR sz l3).map fun tb=>{Stm.zero with kind:=5,name:=nm,table:=tb}
def addColumnR (sz:Int) (l:List Tok):Res Stm:=
 (wantsR sz [[99,111,108,117,109,110]] l).bind fun _ l1=>(columnR sz l1).bind fun c l2=>(wantsR sz [[116,111]] l2).bind fun _ l3=>
  (nameR sz l3).map fun tb=>{Stm.zero with kind:=3,column:=c,table:=tb}
def rowR (sz:Int) (l:List Tok):Res (List V):=insideR sz (listR (literalR sz)) l
def insertR (sz:Int) (l:List Tok):Res Stm:=
 (wantsR sz [[105,110,116,111]] l).bind fun _ l1=>(nameR sz l1).bind fun tb l2=>(wantsR sz [[118,97,108,117,101,115]] l2).bind fun _ l3=>
  (listR (rowR sz) l3).map fun rs=>{Stm.zero with kind:=6,table:=tb,rows:=rs}
def setR (sz:Int) (l:List Tok):Res (Bytes×Ex):=
 (nameR sz l).bind fun nm l1=>(wantsR sz [[61]] l1).bind fun _ l2=>(anyR sz l2).map fun e=>(nm,e)
def updateR (sz:Int) (l:List Tok):Res Stm:=
 (nameR sz l).bind fun tb l1=>(wantsR sz [[115,101,116]] l1).bind fun _ l2=>(listR (setR sz) l2).bind fun ss l3=>
  (whereR sz l3).map fun wh=>{Stm.zero with kind:=7,table:=tb,names:=ss.map (·.1),exprs:=ss.map (·.2),where_:=wh}
def deleteR (sz:Int) (l:List Tok):Res Stm:=
 (wantsR sz [[102,114,111,109]] l).bind fun _ l1=>(nameR sz l1).bind fun tb l2=>(whereR sz l2).map fun wh=>{Stm.zero with kind:=8,table:=tb,where_:=wh}
def beginR (sz:Int) (l:List Tok):Res Stm:=match tk [115,101,114,105,97,108,105,122,97,98,108,101] l with
 | some r=>.ok {Stm.zero with kind:=10,mode:=1} r
 | none=>match tk [114,101,97,100] l with
  | some r=>(wantsR sz [[111,110,108,121]] r).map fun _=>{Stm.zero with kind:=10,mode:=2}
  | none=>.ok {Stm.zero with kind:=10} l
def rollbackR (sz:Int) (l:List Tok):Res Stm:=match tk [116,111] l with
 | some r=>(nameR sz r).map fun nm=>{Stm.zero with kind:=12,name:=nm}
 | none=>.ok {Stm.zero with kind:=12} l
def createR (sz:Int) (l:List Tok):Res Stm:=match tk [116,97,98,108,101] l with
 | some r=>(tableR sz r).map fun t=>{Stm.zero with kind:=1,schema:=t}
 | none=>createIndexR sz (optR [117,110,105,113,117,101] l).1 (optR [117,110,105,113,117,101] l).2
def dropR (sz:Int) (l:List Tok):Res Stm:=match tk [116,97,98,108,101] l with
 | some r=>(nameR sz r).map fun tb=>{Stm.zero with kind:=2,table:=tb}
 | none=>dropIndexR sz l
def stmtR (sz:Int) (l:List Tok):Res Stm:=match tk [99,114,101,97,116,101] l with
 | some r=>createR sz r
 | none=>match tk [100,114,111,112] l with
 | some r=>dropR sz r
 | none=>match tk [97,100,100] l with
 | some r=>addColumnR sz r
 | none=>match tk [105,110,115,101,114,116] l with
 | some r=>insertR sz r
 | none=>match tk [117,112,100,97,116,101] l with
 | some r=>updateR sz r
 | none=>match tk [100,101,108,101,116,101] l with
 | some r=>deleteR sz r
 | none=>match tk [115,101,108,101,99,116] l with
 | some r=>(chooseR sz r).map fun x=>{Stm.zero with kind:=9,select:=x}
 | none=>match tk [98,101,103,105,110] l with
 | some r=>beginR sz r
 | none=>match tk [99,111,109,109,105,116] l with
 | some r=>.ok {Stm.zero with kind:=11} r
 | none=>match tk [114,111,108,108,98,97,99,107] l with
 | some r=>rollbackR sz r
 | none=>match tk [115,97,118,101,112,111,105,110,116] l with
 | some r=>(nameR sz r).map fun nm=>{Stm.zero with kind:=13,name:=nm}
 | none=>(wantsR sz [[114,101,108,101,97,115,101]] l).bind fun _ r=>(nameR sz r).map fun nm=>{Stm.zero with kind:=14,name:=nm}
def keywords:List Bytes:=
 [[97,100,100],[97,110,100],[97,115],[97,115,99],[98,101,103,105,110],[98,111,111,108],[98,121],[99,104,101,99,107],[99,111,108,117,109,110],[99,111,109,109,105,116],[99,111,117,110,116],[99,114,101,97,116,101],[100,101,108,101,116,101],[100,101,115,99],[100,105,115,116,105,110,99,116],[100,114,111,112],[102,97,108,115,101],[102,114,111,109],
  [103,114,111,117,112],[105,110,100,101,120],[105,110,115,101,114,116],[105,110,116],[105,110,116,111],[105,115],[106,111,105,110],[107,101,121],[108,105,109,105,116],[109,97,120],[109,105,110],[110,111,116],[110,117,108,108],[111,110],[111,110,108,121],[111,114],[111,114,100,101,114],[114,101,97,100],[114,101,108,101,97,115,101],[114,111,108,108,98,97,99,107],
  [115,97,118,101,112,111,105,110,116],[115,101,108,101,99,116],[115,101,114,105,97,108,105,122,97,98,108,101],[115,101,116],[115,117,109],[116,97,98,108,101],[116,101,120,116],[116,111],[116,114,117,101],[117,110,105,113,117,101],[117,112,100,97,116,101],[118,97,108,117,101,115],[119,104,101,114,101]]
def lowB (c:UInt8):Bool:=decide (97<=c.toNat)&&decide (c.toNat<=122)
def digB' (c:UInt8):Bool:=decide (48<=c.toNat)&&decide (c.toNat<=57)
def accP (c:UInt8):Bool:=lowB c||digB' c||c==95
def accS (c:UInt8):Bool:=c==32||c==9||c==10
def isName (s:Bytes):Bool:=match s with
 | []=>false
 | c::_=>decide (s.length<=16)&&!keywords.contains s&&lowB c&&s.all accP
def signs:List Bytes:=[[60,62],[60,61],[62,61],[40],[41],[44],[46],[61],[60],[62],[43],[45],[42]]
def signOf (s:Bytes):Option Bytes:=signs.find? fun g=>g.isPrefixOf s
def toQuote:Bytes->Option Bytes
 | []=>none
 | c::r=>if c=39 then some []else(toQuote r).map (c::·)
def tokenR (s:Bytes):Except Int (Tok×Nat):=match s with
 | []=>.error 380
 | c::r=>
  if lowB c then
   let w:=s.takeWhile accP
   if keywords.contains w then .ok (⟨1,0,w,0⟩,w.length)
   else if isName w then .ok (⟨2,0,w,0⟩,w.length)else .error 2
  else if digB' c then
   let w:=s.takeWhile accP
   match Lib.atoiAll w with
   | .ok n=>if 549755813888<n\/Lib.itoa n≠w then .error 381 else .ok (⟨3,0,[],n⟩,w.length)
   | _=>.error 381
  else if c=39 then
   match toQuote r with
   | none=>.error 382
   | some t=>match parseP (39::(t++[39]))with
    | some v=>if v.k=2 then .ok (⟨4,0,v.s.data.toList,0⟩,t.length+2)else .error 382
    | none=>.error 382
  else match signOf s with
   | some g=>.ok (⟨5,0,g,0⟩,g.length)
   | none=>.error 380
def toksF:Nat->Nat->List Tok->Bytes->Except (Int×Int) (List Tok)
 | 0,_,acc,_=>.ok acc
 | f+1,at_,acc,s=>
  let sp:=(s.takeWhile accS).length
  match s.drop sp with
  | []=>.ok acc
  | c::r=>match tokenR (c::r)with
   | .error e=>.error (((at_+sp:Nat):Int),e)
   | .ok (t,n)=>toksF f (at_+sp+n) (acc++[{t with at_:=((at_+sp:Nat):Int)}]) ((c::r).drop n)
def toksR (s:Bytes):Except (Int×Int) (List Tok):=if 4000<s.length then .error (0,2)else toksF (s.length+1) 0 [] s
mutual
def sizeE:Ex->Int->Int
 | .mk _ _ _ _ args,most=>sizeL args most 1
def sizeL:List Ex->Int->Int->Int
 | [],_,n=>n
 | a::l,most,n=>if most<n then n else sizeL l most (n+sizeE a (most - n))
end
def nodeOk (op:Int) (table name:Bytes) (val:V) (n:Nat):Bool:=
 decide (1<=op)&&decide (op<=15)&&decide ((n:Int)=if op=1\/op=2 then 0 else if op=14\/op=15 then 1 else 2)&&val.right&&
  (decide (op=2)||decide (val=V.null))&&(if op=1 then isName name&&(decide (table=[])||isName table)else decide (name++table=[]))
mutual
def Ex.formed:Ex->Bool
 | .mk op t n v args=>nodeOk op t n v args.length&&formedL args
def formedL:List Ex->Bool
 | []=>true
 | a::l=>a.formed&&formedL l
end
def Ex.good (e:Ex):Bool:=decide (sizeE e 200<=200)&&e.formed
def Ex.isZero (e:Ex):Bool:=match e with
 | .mk op t n v args=>decide (op=0)&&decide (t=[])&&decide (n=[])&&decide (v=V.null)&&decide (args.length=0)
def allR {α:Type} (l:List α) (least most:Int) (p:α->Bool):Bool:=decide (least<=(l.length:Int))&&decide ((l.length:Int)<=most)&&l.all p
def condR (e:Ex):Bool:=e.isZero||e.good
def Col.kinded (c:Col):Bool:=isName c.name&&decide (1<=c.kind)&&decide (c.kind<=3)
def Chk.okIn (cols:List Col) (x:Chk):Bool:=
 decide (0<=x.col)&&decide (x.col<(cols.length:Int))&&decide (6<=x.op)&&decide (x.op<=11)&&x.val.right&&
  decide ((colIdx ((cols.map (·.name)).getD x.col.toNat []) cols).map (fun k:Nat=>(k:Int))=some x.col)
def Tbl.tabled (t:Tbl):Bool:=isName t.name&&decide (t.indexes.length=0)&&allR t.cols 1 8 Col.kinded&&allR t.checks 0 4 (Chk.okIn t.cols)
def Pk.picked (x:Pk):Bool:=if x.fn=1 then x.arg.isZero else decide (0<=x.fn)&&decide (x.fn<=4)&&x.arg.good
def Srt.okS (s:Srt):Bool:=decide (0<=s.place)&&decide (s.place<=549755813887)
def groupOk (e:Ex):Bool:=decide (e.op=1)&&e.good
def Sel.chosen (x:Sel):Bool:=
 allR x.items 0 16 Pk.picked&&allR x.from_ 1 4 isName&&allR x.on ((x.from_.length:Int) - 1) ((x.from_.length:Int) - 1) Ex.good&&condR x.where_&&
  allR x.group 0 16 groupOk&&allR x.sort 0 16 Srt.okS&&decide (-1<=x.limit)&&decide (x.limit<=549755813887)
def Stm.unused (x:Stm):Bool:=
 decide (x.names.length+x.rows.length+x.exprs.length+x.schema.cols.length+x.schema.indexes.length+x.schema.checks.length+x.select.items.length+x.select.from_.length+x.select.on.length+x.select.group.length+x.select.sort.length=0)&&
  decide (x.table++x.name++x.schema.name=[])&&decide (x.column=Col.zero)&&!x.unique&&x.where_.isZero&&decide (x.mode=0)&&!x.select.distinct&&x.select.where_.isZero&&decide (x.select.limit=0)
def rowOk (r:List V):Bool:=allR r 1 8 V.right
def Stm.formed (x:Stm):Bool:=
 if x.kind=1 then x.schema.tabled&&Stm.unused {x with schema:=Tbl.zero}
 else if x.kind=2 then isName x.table&&Stm.unused {x with table:=[]}
 else if x.kind=3 then x.column.kinded&&isName x.table&&Stm.unused {x with column:=Col.zero,table:=[]}
 else if x.kind=4 then isName x.table&&isName x.name&&allR x.names 1 8 isName&&Stm.unused {x with unique:=false,table:=[],name:=[],names:=[]}
 else if x.kind=5 then isName x.table&&isName x.name&&Stm.unused {x with table:=[],name:=[]}
 else if x.kind=6 then allR x.rows 1 20 rowOk&&isName x.table&&Stm.unused {x with rows:=[],table:=[]}
 else if x.kind=7 then allR x.exprs x.names.length x.names.length Ex.good&&isName x.table&&allR x.names 1 8 isName&&condR x.where_&&Stm.unused {x with exprs:=[],table:=[],names:=[],where_:=Ex.zero}
 else if x.kind=8 then isName x.table&&condR x.where_&&Stm.unused {x with table:=[],where_:=Ex.zero}
 else if x.kind=9 then x.select.chosen&&Stm.unused {x with select:=Sel.zero}
 else if x.kind=10 then decide (0<=x.mode)&&decide (x.mode<=2)&&Stm.unused {x with mode:=0}
 else if x.kind=11 then x.unused
 else if x.kind=12 then(if x.name=[]then x.unused else isName x.name&&Stm.unused {x with name:=[]})
 else if x.kind=13\/x.kind=14 then isName x.name&&Stm.unused {x with name:=[]}
 else false
def parseS (s:Bytes):Except (Int×Int) Stm:=match toksR s with
 | .error p=>.error p
 | .ok l=>match stmtR s.length l with
  | .err p e=>.error (p,e)
  | .ok x r=>match r with
   | t::_=>.error (t.at_,380)
   | []=>if x.formed then .ok x else .error (0,2)
def pNum (n:Int):List Bytes:=if n<0 then[[45],Lib.itoa (-n)]else[Lib.itoa n]
def pVal (v:V):List Bytes:=if v.k=1 then pNum v.n else[v.print]
def eachP {α:Type} (f:α->List Bytes):List α->List Bytes
 | []=>[]
 | x::l=>f x++l.flatMap fun y=>[44]::f y
def whenP (b:Bool) (l:List Bytes):List Bytes:=if b then l else[]
def signP (op:Int):Bytes:=((opTab.find? fun x=>x.2.1=op).map (·.1)).getD []
def levP (op:Int):Int:=((opTab.find? fun x=>x.2.1=op).map (·.2.2)).getD 0
def exLev (op:Int):Int:=if op=1\/op=2 then 6 else if op=14 then 2 else if op=15 then 3 else levP op
def bodyP (op:Int) (t n:Bytes) (v:V) (kids:List (Int->List Bytes)):List Bytes:=
 if op=1 then whenP (decide (t≠[])) [t,[46]]++[n]
 else if op=2 then pVal v
 else if op=14 then(match kids with
  | [a]=>[110,111,116]::a 2
  | _=>[])
 else if op=15 then(match kids with
  | [a]=>a 4++[[105,115],[110,117,108,108]]
  | _=>[])
 else(match kids with
  | [a,b]=>a (if levP op=3 then 4 else levP op)++[signP op]++b (levP op+1)
  | _=>[])
mutual
def exPr:Ex->Int->List Bytes
 | .mk op t n v args,rule=>whenP (decide (exLev op<rule)) [[40]]++bodyP op t n v (exKids args)++whenP (decide (exLev op<rule)) [[41]]
def exKids:List Ex->List (Int->List Bytes)
 | []=>[]
 | a::l=>(fun r=>exPr a r)::exKids l
end
def whereP (e:Ex):List Bytes:=if e.isZero then[]else[119,104,101,114,101]::exPr e 0
def kindP (k:Int):Bytes:=if k=1 then[105,110,116]else if k=2 then[116,101,120,116]else[98,111,111,108]
def colP (c:Col):List Bytes:=[c.name,kindP c.kind]++whenP (!c.null) [[110,111,116],[110,117,108,108]]
def chkP (cols:List Col) (x:Chk):List Bytes:=[[44],[99,104,101,99,107],[40],(cols.map (·.name)).getD x.col.toNat [],signP x.op]++pVal x.val++[[41]]
def tblP (t:Tbl):List Bytes:=[t.name,[40]]++eachP colP t.cols++t.checks.flatMap (chkP t.cols)++[[41]]
def itemP (x:Pk):List Bytes:=if x.fn=0 then exPr x.arg 0 else if x.fn=1 then[[99,111,117,110,116],[40],[42],[41]]
 else[if x.fn=2 then[115,117,109]else if x.fn=3 then[109,105,110]else[109,97,120],[40]]++exPr x.arg 0++[[41]]
def joinsP:List Bytes->List Ex->List Bytes
 | n::ns,e::es=>[[106,111,105,110],n,[111,110]]++exPr e 0++joinsP ns es
 | _,_=>[]
def srtP (s:Srt):List Bytes:=pNum s.place++whenP s.down [[100,101,115,99]]
def selP (x:Sel):List Bytes:=
 [[115,101,108,101,99,116]]++whenP x.distinct [[100,105,115,116,105,110,99,116]]++whenP (decide (x.items.length=0)) [[42]]++eachP itemP x.items++[[102,114,111,109],x.from_.getD 0 []]++joinsP (x.from_.drop 1) x.on++whereP x.where_++
  whenP (decide (0<x.group.length)) [[103,114,111,117,112],[98,121]]++eachP (fun e=>exPr e 0) x.group++whenP (decide (0<x.sort.length)) [[111,114,100,101,114],[98,121]]++eachP srtP x.sort++
  whenP (decide (0<=x.limit)) ([108,105,109,105,116]::pNum x.limit)
def setsP:List Bytes->List Ex->List (List Bytes)
 | n::ns,e::es=>([n,[61]]++exPr e 0)::setsP ns es
 | _,_=>[]
def rowP (r:List V):List Bytes:=[[40]]++eachP pVal r++[[41]]
def stmP (x:Stm):List Bytes:=
 if x.kind=1 then[[99,114,101,97,116,101],[116,97,98,108,101]]++tblP x.schema
 else if x.kind=2 then[[100,114,111,112],[116,97,98,108,101],x.table]
 else if x.kind=3 then[[97,100,100],[99,111,108,117,109,110]]++colP x.column++[[116,111],x.table]
 else if x.kind=4 then[[99,114,101,97,116,101]]++whenP x.unique [[117,110,105,113,117,101]]++[[105,110,100,101,120],x.name,[111,110],x.table,[40]]++eachP (fun s=>[s]) x.names++[[41]]
 else if x.kind=5 then[[100,114,111,112],[105,110,100,101,120],x.name,[111,110],x.table]
 else if x.kind=6 then[[105,110,115,101,114,116],[105,110,116,111],x.table,[118,97,108,117,101,115]]++eachP rowP x.rows
 else if x.kind=7 then[[117,112,100,97,116,101],x.table,[115,101,116]]++eachP id (setsP x.names x.exprs)++whereP x.where_
 else if x.kind=8 then[[100,101,108,101,116,101],[102,114,111,109],x.table]++whereP x.where_
 else if x.kind=9 then selP x.select
 else if x.kind=10 then[[98,101,103,105,110]]++whenP (decide (x.mode=1)) [[115,101,114,105,97,108,105,122,97,98,108,101]]++whenP (decide (x.mode=2)) [[114,101,97,100],[111,110,108,121]]
 else if x.kind=11 then[[99,111,109,109,105,116]]
 else if x.kind=12 then[[114,111,108,108,98,97,99,107]]++whenP (decide (x.name≠[])) [[116,111],x.name]
 else if x.kind=13 then[[115,97,118,101,112,111,105,110,116],x.name]
 else[[114,101,108,101,97,115,101],x.name]
def joinSp:List Bytes->Bytes
 | []=>[]
 | [a]=>a
 | a::l=>a++32::joinSp l
def printS (x:Stm):Bytes×Int:=if x.formed then(if 4000<(joinSp (stmP x)).length then([],2)else(joinSp (stmP x),0))else([],3)
theorem Ex.ind {P:Ex->Prop} (h:∀op t n v args,(∀a∈args,P a)->P (.mk op t n v args)):∀e,P e:=fun e=>by
 refine Ex.rec (motive_1:=P) (motive_2:=fun l=>∀a∈l,P a) ?_ ?_ ?_ e
 ·intro op t n v args ih;exact h op t n v args ih
 ·intro a ha;cases ha
 ·intro a l ha hl b hb;rcases List.mem_cons.1 hb with rfl|hb
  ·exact ha
  ·exact hl b hb
theorem Hp (sz:Int):∀f:Nat,(∀lev l r,exprF sz f lev l=some r->exprF sz (f+1) lev l=some r)/\(∀lev e l r,chainF sz f lev e l=some r->chainF sz (f+1) lev e l=some r)
 | 0=>⟨fun lev l r h=>by simp[exprF]at h,fun lev e l r h=>by simp[chainF]at h⟩
 | f+1=>by
  obtain⟨ih1,ih2⟩:=Hp sz f;refine⟨fun lev l r h=>?_,fun lev e l r h=>?_⟩
  ·rw[exprF]at h ⊢;split at h
   ·rename_i h2;rw[if_pos h2];split at h
    ·rename_i rr hr
     cases hx:exprF sz f 2 rr with
     | none=>rw[hx]at h;cases h
     | some y=>rw[hx]at h;rw[ih1 _ _ _ hx];exact h
    ·exact ih1 _ _ _ h
   ·rename_i h2;rw[if_neg h2];split at h
    ·rename_i h3;rw[if_pos h3];split at h
     ·cases h
     ·rename_i p e hx;rw[ih1 _ _ _ hx];exact h
     ·rename_i e l1 hx;rw[ih1 _ _ _ hx];simp only at h ⊢;split at h
      ·rename_i h4;rw[if_pos h4]
       cases hy:exprF sz f 4 l1.tail with
       | none=>rw[hy]at h;cases h
       | some y=>rw[hy]at h;rw[ih1 _ _ _ hy];exact h
      ·rename_i h4;rw[if_neg h4];exact h
    ·rename_i h3;rw[if_neg h3];split at h
     ·rename_i h6;rw[if_pos h6];split at h
      ·rename_i rr hr;split at h
       ·cases h
       ·rename_i p e hx;rw[ih1 _ _ _ hx];exact h
       ·rename_i e l1 hx;rw[ih1 _ _ _ hx];exact h
      ·exact h
     ·rename_i h6;rw[if_neg h6];split at h
      ·cases h
      ·rename_i p e hx;rw[ih1 _ _ _ hx];exact h
      ·rename_i e l1 hx;rw[ih1 _ _ _ hx];exact ih2 _ _ _ _ h
  ·rw[chainF]at h ⊢;split at h
   ·exact h
   ·split at h
    ·rename_i hne;rw[if_pos hne];exact h
    ·rename_i hne;rw[if_neg hne];split at h
     ·cases h
     ·rename_i p x hx;rw[ih1 _ _ _ hx];exact h
     ·rename_i e2 l2 hx;rw[ih1 _ _ _ hx];exact ih2 _ _ _ _ h
theorem Km (sz:Int) {f g:Nat} (hg:f<=g) {lev:Nat} {l:List Tok} {r:Res Ex} (h:exprF sz f lev l=some r):exprF sz g lev l=some r:=by
 induction g with
 | zero=>
  have:f=0:=by omega
  subst this;exact h
 | succ g ih=>
  rcases Nat.lt_or_ge f (g+1)with hl|hl
  ·exact(Hp sz g).1 _ _ _ (ih (by omega))
  ·have:f=g+1:=by omega
   subst this;exact h
theorem Wi (sz:Int) {f g:Nat} (hg:f<=g) {lev:Nat} {e:Ex} {l:List Tok} {r:Res Ex} (h:chainF sz f lev e l=some r):chainF sz g lev e l=some r:=by
 induction g with
 | zero=>
  have:f=0:=by omega
  subst this;exact h
 | succ g ih=>
  rcases Nat.lt_or_ge f (g+1)with hl|hl
  ·exact(Hp sz g).2 _ _ _ _ (ih (by omega))
  ·have:f=g+1:=by omega
   subst this;exact h
theorem A2 {w:Bytes} {l r:List Tok} (h:tk w l=some r):l.length=r.length+1:=by
 cases l with
 | nil=>simp[tk]at h
 | cons t l=>
  simp only[tk]at h;split at h
  ·cases h;rfl
  ·cases h
theorem D9 {k:Int} {l r:List Tok} {t:Tok} (h:nextR k l=some (t,r)):l=t::r/\t.kind=k:=by
 cases l with
 | nil=>simp[nextR]at h
 | cons u l=>
  simp only[nextR]at h;split at h
  ·cases h;exact⟨rfl,by assumption⟩
  ·cases h
theorem Bg {sz:Int}:∀{ws:List Bytes} {l r:List Tok} {u:Unit},wantsR sz ws l=.ok u r->l.length=r.length+ws.length
 | [],l,r,u,h=>by simp only[wantsR]at h;cases h;rfl
 | w::ws,l,r,u,h=>by
  simp only[wantsR]at h;split at h
  ·rename_i r1 h1;have:=Bg h;have:=A2 h1;simp only[List.length_cons];omega
  ·simp[stopR]at h
theorem Z6 {α β:Type} {x:Res α} {f:α->List Tok->Res β} {b:β} {r:List Tok} (h:x.bind f=.ok b r):∃a l,x=.ok a l/\f a l=.ok b r:=by
 cases x with
 | ok a l=>exact⟨a,l,rfl,h⟩
 | err p e=>cases h
theorem Fc {α β:Type} {x:Res α} {f:α->β} {b:β} {r:List Tok} (h:x.map f=.ok b r):∃a,x=.ok a r/\b=f a:=by
 cases x with
 | ok a l=>cases h;exact⟨a,rfl,rfl⟩
 | err p e=>cases h
theorem C9 {sz:Int} {l r:List Tok} {s:Bytes} (h:nameR sz l=.ok s r):l.length=r.length+1:=by
 simp only[nameR]at h;split at h
 ·rename_i t r1 h1;cases h;obtain⟨rfl,_⟩:=D9 h1;rfl
 ·simp[stopR]at h
theorem Ig {sz:Int} {l r:List Tok} {n:Int} (h:numberR sz l=.ok n r):l.length=r.length+1:=by
 simp only[numberR]at h;split at h
 ·simp[stopR]at h
 ·split at h
  ·rename_i t r1 h1;cases h;obtain⟨rfl,_⟩:=D9 h1;rfl
  ·simp[stopR]at h
theorem M3 {sz:Int} {l r:List Tok} {v:V} (h:literalR sz l=.ok v r):r.length+1<=l.length:=by
 simp only[literalR]at h;split at h
 ·rename_i t r1 h1;cases h;obtain⟨rfl,_⟩:=D9 h1;simp
 ·split at h
  ·rename_i r1 h1;split at h
   ·rename_i t r2 h2;cases h;obtain⟨rfl,_⟩:=D9 h2;have:=A2 h1;simp only[List.length_cons]at this;omega
   ·simp[stopR]at h
  ·split at h
   ·rename_i r1 h1;cases h;have:=A2 h1;omega
   ·split at h
    ·rename_i r1 h1;cases h;have:=A2 h1;omega
    ·split at h
     ·rename_i r1 h1;cases h;have:=A2 h1;omega
     ·obtain⟨n,h1,rfl⟩:=Fc h;have:=Ig h1;omega
theorem N4 {sz:Int} {l r:List Tok} {e:Ex} (h:refR sz l=.ok e r):r.length+1<=l.length:=by
 obtain⟨a,l1,h1,h2⟩:=Z6 h;have:=C9 h1;split at h2
 ·rename_i l2 h3;obtain⟨b,h4,rfl⟩:=Fc h2;have:=C9 h4;have:=A2 h3;omega
 ·cases h2;omega
theorem Oz {sz:Int} {e e':Ex} {l r:List Tok} (h:isNullR sz e l=.ok e' r):r.length<=l.length:=by
 simp only[isNullR]at h;split at h
 ·cases h;exact Nat.le_refl _
 ·rename_i l1 h1;have:=A2 h1;split at h
  ·rename_i l2 h2;obtain⟨u,h3,_⟩:=Fc h;have:=Bg h3;have:=A2 h2;omega
  ·obtain⟨u,h3,_⟩:=Fc h;have:=Bg h3;omega
theorem Fh (sz:Int):∀f:Nat,(∀lev l e r,exprF sz f lev l=some (.ok e r)->r.length+1<=l.length)/\(∀lev e l e' r,chainF sz f lev e l=some (.ok e' r)->r.length<=l.length)
 | 0=>⟨fun lev l e r h=>by simp[exprF]at h,fun lev e l e' r h=>by simp[chainF]at h⟩
 | f+1=>by
  obtain⟨ih1,ih2⟩:=Fh sz f;refine⟨fun lev l e r h=>?_,fun lev e l e' r h=>?_⟩
  ·rw[exprF]at h;split at h
   ·split at h
    ·rename_i rr hr
     cases hx:exprF sz f 2 rr with
     | none=>rw[hx]at h;cases h
     | some y=>
      rw[hx]at h;simp only[Option.map_some,Option.some.injEq]at h;obtain⟨a,rfl,_⟩:=Fc h;have:=ih1 _ _ _ _ hx;have:=A2 hr;omega
    ·exact ih1 _ _ _ _ h
   ·split at h
    ·split at h
     ·cases h
     ·cases h
     ·rename_i e1 l1 hx;have hl1:=ih1 _ _ _ _ hx;split at h
      ·cases hy:exprF sz f 4 l1.tail with
       | none=>rw[hy]at h;cases h
       | some y=>
        rw[hy]at h;simp only[Option.map_some,Option.some.injEq]at h;obtain⟨a,rfl,_⟩:=Fc h;have:=ih1 _ _ _ _ hy;have:l1.tail.length<=l1.length:=by simp
        omega
      ·simp only[Option.some.injEq]at h;have:=Oz h;omega
    ·split at h
     ·split at h
      ·rename_i rr hr;have:=A2 hr;split at h
       ·cases h
       ·cases h
       ·rename_i e1 l1 hx;simp only[Option.some.injEq]at h;obtain⟨u,h3,_⟩:=Fc h;have:=Bg h3;have:=ih1 _ _ _ _ hx;simp only[List.length_cons,List.length_nil]at *;omega
      ·simp only[Option.some.injEq]at h;split at h
       ·exact N4 h
       ·obtain⟨v,h3,_⟩:=Fc h;exact M3 h3
     ·split at h
      ·cases h
      ·cases h
      ·rename_i e1 l1 hx;have:=ih1 _ _ _ _ hx;have:=ih2 _ _ _ _ _ h;omega
  ·rw[chainF]at h;split at h
   ·cases h;exact Nat.le_refl _
   ·split at h
    ·cases h;exact Nat.le_refl _
    ·split at h
     ·cases h
     ·cases h
     ·rename_i e2 l2 hx;have:=ih1 _ _ _ _ hx;have:=ih2 _ _ _ _ _ h;have:l.tail.length<=l.length:=by simp
      omega
theorem Du (sz:Int):∀f:Nat,(∀lev l,lev<=6->10 * l.length+9 - lev<=f->(exprF sz f lev l).isSome=true)/\(∀lev e l,lev<=6->10 * l.length+1<=f->(chainF sz f lev e l).isSome=true)
 | 0=>⟨fun lev l h1 h2=>by omega,fun lev e l h1 h2=>by omega⟩
 | f+1=>by
  obtain⟨ih1,ih2⟩:=Du sz f;refine⟨fun lev l h1 h2=>?_,fun lev e l h1 h2=>?_⟩
  ·rw[exprF];split
   ·split
    ·rename_i rr hr;have:=A2 hr;have:=ih1 2 rr (by omega) (by omega);rw[Option.isSome_map];exact this
    ·exact ih1 3 l (by omega) (by omega)
   ·split
    ·have h4:=ih1 4 l (by omega) (by omega);split
     ·rename_i hx;rw[hx]at h4;cases h4
     ·rfl
     ·rename_i e1 l1 hx;have:=(Fh sz f).1 _ _ _ _ hx;split
      ·have:l1.tail.length<=l1.length:=by simp
       rw[Option.isSome_map];exact ih1 4 l1.tail (by omega) (by omega)
      ·rfl
    ·split
     ·split
      ·rename_i rr hr;have:=A2 hr;have h4:=ih1 0 rr (by omega) (by omega);split
       ·rename_i hx;rw[hx]at h4;cases h4
       ·rfl
       ·rfl
      ·rfl
     ·have h4:=ih1 (lev+1) l (by omega) (by omega);split
      ·rename_i hx;rw[hx]at h4;cases h4
      ·rfl
      ·rename_i e1 l1 hx;have:=(Fh sz f).1 _ _ _ _ hx;exact ih2 lev e1 l1 (by omega) (by omega)
  ·rw[chainF];split
   ·rfl
   ·rename_i op lv ho;split
    ·rfl
    ·have hl:l≠[]:=by
      intro e;subst e;simp[seesWord,opOf,opTab]at ho
     have hl2:l.tail.length+1=l.length:=by
      cases l with
      | nil=>exact absurd rfl hl
      | cons a l=>simp
     have hlv:lev<6:=by
      have:∀x∈opTab,x.2.2<=5:=by decide+kernel
      rename_i hne;simp only[opOf,Option.map_eq_some_iff]at ho;obtain⟨y,hy,e⟩:=ho;have:=this y (List.mem_of_find?_eq_some hy);rw[e]at this;simp only at this;omega
     have h4:=ih1 (lev+1) l.tail (by omega) (by omega);split
     ·rename_i hx;rw[hx]at h4;cases h4
     ·rfl
     ·rename_i e1 l1 hx;have:=(Fh sz f).1 _ _ _ _ hx;exact ih2 lev _ l1 (by omega) (by omega)
theorem Eo (sz:Int) {f lev:Nat} {l:List Tok} {r:Res Ex} (h:exprF sz f lev l=some r) (hlev:lev<=6):exprR sz lev l=r:=by
 have h1:=(Du sz (exprFuel lev l)).1 lev l hlev (by unfold exprFuel;omega);obtain⟨y,hy⟩:=Option.isSome_iff_exists.1 h1;unfold exprR;rw[hy,Option.getD_some];rcases Nat.le_total f (exprFuel lev l)with hf|hf
 ·have:=Km sz hf h;rw[hy]at this;exact Option.some.inj this
 ·have:=Km sz hf hy;rw[h]at this;exact(Option.some.inj this).symm
theorem Kl (sz:Int) (lev:Nat) (l:List Tok) (hlev:lev<=6):exprF sz (exprFuel lev l) lev l=some (exprR sz lev l):=by
 have h1:=(Du sz (exprFuel lev l)).1 lev l hlev (by unfold exprFuel;omega);obtain⟨y,hy⟩:=Option.isSome_iff_exists.1 h1;unfold exprR;rw[hy];rfl
theorem Dl (sz:Int) {F lev:Nat} {l:List Tok} (hlev:lev<=6) (hF:exprFuel lev l<=F):exprF sz F lev l=some (exprR sz lev l):=Km sz hF (Kl sz lev l hlev)
def chainR (sz:Int) (lev:Nat) (e:Ex) (l:List Tok):Res Ex:=(chainF sz (10 * l.length+1) lev e l).getD (.err 0 0)
theorem Hs (sz:Int) {F lev:Nat} {e:Ex} {l:List Tok} (hlev:lev<=6) (hF:10 * l.length+1<=F):chainF sz F lev e l=some (chainR sz lev e l):=by
 have h1:=(Du sz (10 * l.length+1)).2 lev e l hlev (Nat.le_refl _);obtain⟨y,hy⟩:=Option.isSome_iff_exists.1 h1;unfold chainR;rw[hy];exact Wi sz hF hy
theorem Ci {sz:Int} {lev:Nat} {l r:List Tok} {e:Ex} (hlev:lev<=6) (h:exprR sz lev l=.ok e r):r.length+1<=l.length:=
 (Fh sz _).1 _ _ _ _ (by rw[Kl sz lev l hlev,h])
theorem exprR_not (sz:Int) (l:List Tok):exprR sz 2 l=match tk [110,111,116] l with
  | some r=>(exprR sz 2 r).map fun e=>opEx 14 [e]
  | none=>exprR sz 3 l:=by
 refine Eo sz (f:=10 * l.length+9+1) ?_ (by omega)
 rw[exprF,if_pos rfl]
 cases hr:tk [110,111,116] l with
 | none=>exact Dl sz (by omega) (by unfold exprFuel;omega)
 | some r=>
  have:=A2 hr;simp only;rw[Dl sz (lev:=2) (by omega) (by unfold exprFuel;omega)];rfl
theorem exprR_cmp (sz:Int) (l:List Tok):exprR sz 3 l=(exprR sz 4 l).bind fun e l1=>
 if(opPair (seesWord l1)).2=3 then(exprR sz 4 l1.tail).map fun e2=>opEx (opPair (seesWord l1)).1 [e,e2]else isNullR sz e l1:=by
 refine Eo sz (f:=10 * l.length+9+1) ?_ (by omega);rw[exprF,if_neg (by omega),if_pos rfl,Dl sz (lev:=4) (by omega) (by unfold exprFuel;omega)]
 cases h:exprR sz 4 l with
 | err p e=>rfl
 | ok e l1=>
  have:=Ci (by omega) h;simp only[Res.bind];split
  ·have:l1.tail.length<=l1.length:=by simp
   rw[Dl sz (lev:=4) (by omega) (by unfold exprFuel;omega)];rfl
  ·rfl
theorem exprR_prim (sz:Int) (l:List Tok):exprR sz 6 l=match tk [40] l with
  | some r=>(exprR sz 0 r).bind fun e l1=>(wantsR sz [[41]] l1).map fun _=>e
  | none=>if headIs 2 l then refR sz l else(literalR sz l).map valEx:=by
 refine Eo sz (f:=10 * l.length+9+1) ?_ (by omega)
 rw[exprF,if_neg (by omega),if_neg (by omega),if_pos rfl]
 cases hr:tk [40] l with
 | none=>rfl
 | some r=>
  have:=A2 hr;simp only;rw[Dl sz (lev:=0) (by omega) (by unfold exprFuel;omega)]
  cases exprR sz 0 r<;>rfl
theorem exprR_chain (sz:Int) (lev:Nat) (l:List Tok) (h6:lev<6) (h2:lev≠2) (h3:lev≠3):exprR sz lev l=(exprR sz (lev+1) l).bind (chainR sz lev):=by
 refine Eo sz (f:=10 * l.length+9+1) ?_ (by omega);rw[exprF,if_neg h2,if_neg h3,if_neg (by omega),Dl sz (by omega) (by unfold exprFuel;omega)]
 cases h:exprR sz (lev+1) l with
 | err p e=>rfl
 | ok e l1=>
  have:=Ci (by omega) h;simp only[Res.bind];exact Hs sz (by omega) (by omega)
theorem Wh (sz:Int) (lev:Nat) (e:Ex) (l:List Tok) (h6:lev<6):chainR sz lev e l=match opOf (seesWord l)with
  | none=>.ok e l
  | some (op,lv)=>if lv≠(lev:Int)then .ok e l else(exprR sz (lev+1) l.tail).bind fun e2 l2=>chainR sz lev (opEx op [e,e2]) l2:=by
 have h:=Hs sz (F:=10 * l.length+9+1) (lev:=lev) (e:=e) (l:=l) (by omega) (by omega)
 rw[chainF]at h
 refine(Option.some.inj (h.symm.trans ?_))
 cases ho:opOf (seesWord l)with
 | none=>rfl
 | some p=>
  obtain⟨op,lv⟩:=p;simp only;split
  ·rfl
  ·have:l.tail.length<=l.length:=by simp
   rw[Dl sz (lev:=lev+1) (by omega) (by unfold exprFuel;omega)]
   cases h2:exprR sz (lev+1) l.tail with
   | err p x=>rfl
   | ok e2 l2=>
    have:=Ci (by omega) h2;simp only[Res.bind];exact Hs sz (by omega) (by omega)
end Go.Proofs.YtjmmbebkbkgefaaGreatDoor
