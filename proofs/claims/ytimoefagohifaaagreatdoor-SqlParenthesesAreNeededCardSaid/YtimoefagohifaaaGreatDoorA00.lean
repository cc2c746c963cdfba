/- Laws that the last part needs. No condition. -/
import Derived.Test.YtimoefagohifaaaGreatDoorAS
import Derived.Shelf.Strings.Builder1
import Derived.Shelf.Strings.Builder2
import Derived.Shelf.Strings.OnBuilder
import Derived.Shelf.Small.Utf8
import Derived.Shelf.Small.Strs
import Derived.Shelf.Small.Wraps
import Derived.Shelf.Strings.BuilderF
import Derived.Shelf.Strings.BuilderK
import Derived.Shelf.Strings.BuilderRune
import Derived.Shelf.Strconv.Atoi
import Derived.Shelf.Strconv.Itoa0
import Derived.Shelf.Strconv.Itoa1
import Derived.Shelf.LaysM
import Derived.Shelf.Strconv.Itoa2
import Derived.Shelf.Strconv.Itoa3
import Derived.Shelf.Strconv.AtoiErrFast
import Derived.Shelf.Strconv.ParseIntEmpty
import Derived.Shelf.Strconv.AtoiFail
import Derived.Shelf.Strconv.Clone
import Derived.Shelf.Strconv.SyntaxError
import Derived.Shelf.LaysC
import Derived.Shelf.Strconv.ToError
import Derived.Shelf.Strconv.Lower
import Derived.Shelf.Strconv.ParseUint10
import Derived.Shelf.Strconv.ParseUint10Empty
import Derived.Shelf.Strconv.ParseUint10Any
import Derived.Shelf.Strconv.ParseInt10
import Derived.Shelf.Strconv.AtoiLong
import Derived.Shelf.Strconv.AtoiInnerAll
import Derived.Shelf.Strconv.RangeError
import Derived.Shelf.Strconv.ToErrorRange
import Derived.Shelf.Strconv.AtoiAll
import Derived.Shelf.Strconv.ErrVarAll
import Derived.Shelf.Strings.Search1
import Derived.Shelf.Strings.Search2
import Derived.Shelf.Strings.Search3
import Derived.Shelf.Strings.Shaped
import Derived.Shelf.Strings.Prefix
import Derived.Shelf.Unicode.Latin
import Derived.Shelf.Unicode.Props
import Derived.Shelf.Unicode.PropsLaid
import Derived.Shelf.Unicode.DecodeSlow
import Derived.Shelf.Unicode.DecodeAny
import Derived.Shelf.Unicode.Is16White
import Derived.Shelf.Unicode.IsSpaceAny
import Derived.Shelf.Unicode.CaseLookup
import Derived.Shelf.Unicode.CaseConvert
import Derived.Shelf.Unicode.CaseTo
import Derived.Shelf.Unicode.CaseLaid
import Derived.Shelf.Strings.MapAny
import Derived.Shelf.Strings.CaseAny
import Derived.Shelf.Unicode.Is16Any
import Derived.Shelf.Unicode.Is32Any
import Derived.Shelf.Unicode.ExclAny
import Derived.Shelf.Unicode.PredsAny
import Derived.Shelf.Slices.Turned
import Derived.Ground.SlgfProg
import Derived.Shelf.SlicesE.IndexFunc
import Derived.Test.YtimoefagohifaaaGreatDoorProg
import Derived.Lib.Bytealg
import Derived.Lib.ItoaNum
import Derived.Lib.AtoiAll
import Derived.Lib.Split
import Derived.Lib.SplitLaws
import Derived.Lib.Case
set_option maxRecDepth 100000
namespace Go.Proofs
def Tryz.lays159_ren:Go.Shelf.Ren:=⟨fun|159=>218|165=>98|166=>99|167=>255|169=>100|230=>256|204=>257|240=>167|241=>168|197=>272|118=>273|168=>274|270=>275|262=>276|276=>225|277=>226|260=>288|242=>289|313=>290|278=>292|274=>293|275=>294|n=>n,fun|9=>9|4=>4|3=>3|5=>5|72=>166|0=>0|76=>142|75=>141|107=>307|70=>164|20=>20|37=>58|127=>218|21=>21|105=>325|164=>266|162=>336|203=>334|119=>251|46=>217|139=>342|138=>341|51=>250|160=>343|208=>349|206=>347|80=>167|n=>n,fun|13=>7|3=>10|4=>11|n=>n⟩
theorem Tryz.lays159:Go.Proofs.Lays.n159 prog Tryz.lays159_ren:={
 mixed:=acz
 f118:=func273.trans (congrArg some acz)
 f159:=func218.trans (congrArg some acz)
 f165:=func98.trans (congrArg some acz)
 f166:=func99.trans (congrArg some acz)
 f167:=func255.trans (congrArg some acz)
 f168:=func274.trans (congrArg some acz)
 f169:=func100.trans (congrArg some acz)
 f197:=func272.trans (congrArg some acz)
 f204:=func257.trans (congrArg some acz)
 f230:=func256.trans (congrArg some acz)
 f240:=func167.trans (congrArg some acz)
 f241:=func168.trans (congrArg some acz)
 f242:=func289.trans (congrArg some acz)
 f260:=func288.trans (congrArg some acz)
 f262:=func276.trans (congrArg some acz)
 f270:=func275.trans (congrArg some acz)
 f274:=func293.trans (congrArg some acz)
 f275:=func294.trans (congrArg some acz)
 f276:=func225.trans (congrArg some acz)
 f277:=func226.trans (congrArg some acz)
 f278:=func292.trans (congrArg some acz)
 f313:=func290.trans (congrArg some acz)
 t0:=underlying0
 a0:=Tryz.isAgg0
 z0:=Tryz.sizeOf0
 v0:=Tryz.zeroValue0
 t3:=underlying3
 a3:=Tryz.isAgg3
 z3:=Tryz.sizeOf3
 v3:=Tryz.zeroValue3
 t4:=underlying4
 a4:=Tryz.isAgg4
 z4:=Tryz.sizeOf4
 v4:=Tryz.zeroValue4
 t5:=underlying5
 a5:=Tryz.isAgg5
 z5:=Tryz.sizeOf5
 v5:=Tryz.zeroValue5
 t9:=underlying9
 a9:=Tryz.isAgg9
 z9:=Tryz.sizeOf9
 v9:=Tryz.zeroValue9
 t20:=underlying20
 a20:=Tryz.isAgg20
 z20:=Tryz.sizeOf20
 v20:=Tryz.zeroValue20
 t21:=underlying21
 a21:=Tryz.isAgg21
 z21:=Tryz.sizeOf21
 v21:=Tryz.zeroValue21
 t37:=underlying58
 a37:=Tryz.isAgg58
 z37:=Tryz.sizeOf58
 v37:=Tryz.zeroValue58
 t46:=underlying217
 a46:=Tryz.isAgg217
 z46:=Tryz.sizeOf217
 v46:=Tryz.zeroValue217
 t51:=underlying250
 a51:=Tryz.isAgg250
 z51:=Tryz.sizeOf250
 v51:=Tryz.zeroValue250
 t70:=underlying164
 a70:=Tryz.isAgg164
 z70:=Tryz.sizeOf164
 v70:=Tryz.zeroValue164
 t72:=underlying166
 a72:=Tryz.isAgg166
 z72:=Tryz.sizeOf166
 v72:=Tryz.zeroValue166
 t75:=underlying141
 a75:=Tryz.isAgg141
 z75:=Tryz.sizeOf141
 v75:=Tryz.zeroValue141
 t76:=underlying142
 a76:=Tryz.isAgg142
 z76:=Tryz.sizeOf142
 v76:=Tryz.zeroValue142
 t105:=underlying325
 a105:=Tryz.isAgg325
 z105:=Tryz.sizeOf325
 v105:=Tryz.zeroValue325
 t107:=underlying307
 a107:=Tryz.isAgg307
 z107:=Tryz.sizeOf307
 v107:=Tryz.zeroValue307
 t119:=underlying251
 a119:=Tryz.isAgg251
 z119:=Tryz.sizeOf251
 t127:=underlying218
 a127:=Tryz.isAgg218
 z127:=Tryz.sizeOf218
 v127:=Tryz.zeroValue218
 t138:=underlying341
 a138:=Tryz.isAgg341
 z138:=Tryz.sizeOf341
 v138:=Tryz.zeroValue341
 t139:=underlying342
 a139:=Tryz.isAgg342
 z139:=Tryz.sizeOf342
 v139:=Tryz.zeroValue342
 t160:=underlying343
 a160:=Tryz.isAgg343
 z160:=Tryz.sizeOf343
 v160:=Tryz.zeroValue343
 t162:=underlying336
 a162:=Tryz.isAgg336
 z162:=Tryz.sizeOf336
 v162:=Tryz.zeroValue336
 t164:=underlying266
 a164:=Tryz.isAgg266
 z164:=Tryz.sizeOf266
 v164:=Tryz.zeroValue266
 t203:=underlying334
 a203:=Tryz.isAgg334
 z203:=Tryz.sizeOf334
 v203:=Tryz.zeroValue334
 t206:=underlying347
 a206:=Tryz.isAgg347
 z206:=Tryz.sizeOf347
 v206:=Tryz.zeroValue347
 t208:=underlying349
 a208:=Tryz.isAgg349
 z208:=Tryz.sizeOf349
 v208:=Tryz.zeroValue349
 g3:=acz
 g4:=acz
 g13:=by kernel_rfl}
theorem Tryz.Builder_Extra_159:Builder.Extra prog Tryz.lays159_ren:={
 sizeBuilder:=acz
 liesBuilder:=acz
 t5:=underlying5
 a5:=Tryz.isAgg5
 z5:=Tryz.sizeOf5
 v5:=Tryz.zeroValue5
 infoByte:=acz
 cellsByte:=acz
 sizeByte:=acz
 neB5:=by decide}
open Go.RowKit in
theorem Tryz.strings_ToLower_ascii (s:ByteArray) (w:World) (hs:s.size<=140737488355328) (hascii:∀(j:Nat) (b:UInt8),s.data.toList[j]?=some b->b.toNat<128):
 Calls prog 218 #[.string s] w fun e w'=>e=.returned (.string ⟨(Lib.toLowerA s.data.toList).toArray⟩)/\Below w.heap.size w w':=Any.strings_ToLower_ascii Tryz.lays159 Tryz.Builder_Extra_159 s w hs hascii
def Tryz.lays156_ren:Go.Shelf.Ren:=⟨fun|156=>35|165=>98|166=>99|169=>100|240=>167|241=>168|276=>225|277=>226|n=>n,fun|31=>38|9=>9|3=>3|4=>4|0=>0|20=>20|72=>166|76=>142|70=>164|37=>58|75=>141|127=>218|164=>266|5=>5|80=>167|n=>n,fun|n=>n⟩
theorem Tryz.lays156:Go.Proofs.Lays.n156 prog Tryz.lays156_ren:={
 mixed:=acz
 f156:=func35.trans (congrArg some acz)
 f165:=func98.trans (congrArg some acz)
 f166:=func99.trans (congrArg some acz)
 f169:=func100.trans (congrArg some acz)
 f240:=func167.trans (congrArg some acz)
 f241:=func168.trans (congrArg some acz)
 f276:=func225.trans (congrArg some acz)
 f277:=func226.trans (congrArg some acz)
 t0:=underlying0
 a0:=Tryz.isAgg0
 z0:=Tryz.sizeOf0
 v0:=Tryz.zeroValue0
 t3:=underlying3
 a3:=Tryz.isAgg3
 z3:=Tryz.sizeOf3
 v3:=Tryz.zeroValue3
 t4:=underlying4
 a4:=Tryz.isAgg4
 z4:=Tryz.sizeOf4
 v4:=Tryz.zeroValue4
 t9:=underlying9
 a9:=Tryz.isAgg9
 z9:=Tryz.sizeOf9
 v9:=Tryz.zeroValue9
 t20:=underlying20
 a20:=Tryz.isAgg20
 z20:=Tryz.sizeOf20
 v20:=Tryz.zeroValue20
 t31:=underlying38
 a31:=Tryz.isAgg38
 z31:=Tryz.sizeOf38
 v31:=Tryz.zeroValue38
 t37:=underlying58
 a37:=Tryz.isAgg58
 z37:=Tryz.sizeOf58
 v37:=Tryz.zeroValue58
 t70:=underlying164
 a70:=Tryz.isAgg164
 z70:=Tryz.sizeOf164
 v70:=Tryz.zeroValue164
 t72:=underlying166
 a72:=Tryz.isAgg166
 z72:=Tryz.sizeOf166
 v72:=Tryz.zeroValue166
 t75:=underlying141
 a75:=Tryz.isAgg141
 z75:=Tryz.sizeOf141
 v75:=Tryz.zeroValue141
 t76:=underlying142
 a76:=Tryz.isAgg142
 z76:=Tryz.sizeOf142
 v76:=Tryz.zeroValue142
 t127:=underlying218
 a127:=Tryz.isAgg218
 z127:=Tryz.sizeOf218
 v127:=Tryz.zeroValue218
 t164:=underlying266
 a164:=Tryz.isAgg266
 z164:=Tryz.sizeOf266
 v164:=Tryz.zeroValue266}
theorem Tryz.Builder_Extra_156:Builder.Extra prog Tryz.lays156_ren:={
 sizeBuilder:=acz
 liesBuilder:=acz
 t5:=underlying5
 a5:=Tryz.isAgg5
 z5:=Tryz.sizeOf5
 v5:=Tryz.zeroValue5
 infoByte:=acz
 cellsByte:=acz
 sizeByte:=acz
 neB5:=by decide}
open Go.RowKit in
theorem Tryz.strings_Join (bk o c:Nat) (xs:List ByteArray) (sep:ByteArray) (w:World) (hcells:∀(j:Nat) x,xs[j]?=some x->w.cell? ⟨bk,o+j,none⟩=some (.string x)) (hbk:bk<w.heap.size) (hN:xs.length<=140737488355328) (hcap:xs.length<=c) (hlen:(Lib.join (xs.map (·.data.toList)) sep.data.toList).length<=140737488355328):
 Calls prog 35 #[.slice (some ⟨bk,o,none⟩) xs.length c,.string sep] w fun e w'=>e=.returned (.string ⟨(Lib.join (xs.map (·.data.toList)) sep.data.toList).toArray⟩)/\Below w.heap.size w w':=Any.strings_Join Tryz.lays156 Tryz.Builder_Extra_156 bk o c xs sep w hcells hbk hN hcap hlen
def Tryz.lays137_ren:Go.Shelf.Ren:=⟨fun|137=>79|217=>153|266=>216|n=>n,fun|9=>9|5=>5|3=>3|n=>n,fun|n=>n⟩
theorem Tryz.lays137:Go.Proofs.Lays.n137 prog Tryz.lays137_ren:={
 mixed:=acz
 f137:=func79.trans (congrArg some acz)
 f217:=func153.trans (congrArg some acz)
 f266:=func216.trans (congrArg some acz)
 t3:=underlying3
 a3:=Tryz.isAgg3
 z3:=Tryz.sizeOf3
 v3:=Tryz.zeroValue3
 t5:=underlying5
 a5:=Tryz.isAgg5
 z5:=Tryz.sizeOf5
 v5:=Tryz.zeroValue5
 t9:=underlying9
 a9:=Tryz.isAgg9
 z9:=Tryz.sizeOf9
 v9:=Tryz.zeroValue9}
open Go.RowKit in
theorem Tryz.strings_IndexByte (s:ByteArray) (c:Int) (w:World):
 Calls prog 79 #[.string s,.int .u8 c] w fun e w'=>e=.returned (U (Lib.indexByte s.data.toList c.toNat.toUInt8))/\w'=w:=Any.strings_IndexByte Tryz.lays137 s c w
def Tryz.lays121_ren:Go.Shelf.Ren:=⟨fun|121=>159|214=>224|n=>n,fun|4=>4|9=>9|n=>n,fun|n=>n⟩
theorem Tryz.lays121:Go.Proofs.Lays.n121 prog Tryz.lays121_ren:={
 mixed:=acz
 f121:=func159.trans (congrArg some acz)
 f214:=func224.trans (congrArg some acz)
 t4:=underlying4
 a4:=Tryz.isAgg4
 z4:=Tryz.sizeOf4
 v4:=Tryz.zeroValue4
 t9:=underlying9
 a9:=Tryz.isAgg9
 z9:=Tryz.sizeOf9
 v9:=Tryz.zeroValue9}
open Go.RowKit in
theorem Tryz.strconv_FormatBool (b:Bool) (w:World):
 Calls prog 159 #[.bool b] w fun e w'=>e=.returned (.string ⟨(Lib.formatBool b).toArray⟩)/\w'=w:=Any.strconv_FormatBool Tryz.lays121 b w
def Tryz.laysM171_ren:Go.Shelf.Ren:=⟨fun|171=>78|243=>152|246=>215|283=>251|284=>252|285=>253|286=>254|129=>268|317=>267|318=>269|319=>270|320=>271|337=>286|338=>287|n=>n,fun|3=>3|9=>9|2=>2|4=>4|171=>300|0=>0|53=>261|37=>58|5=>5|173=>303|212=>322|51=>250|20=>20|213=>323|46=>217|232=>338|233=>339|n=>n,fun|17=>6|18=>8|19=>9|n=>n⟩
theorem Tryz.laysM171:Go.Proofs.LaysM.n171 prog Tryz.laysM171_ren:={
 mixed:=acz
 f129:=func268.trans (congrArg some acz)
 f171:=func78.trans (congrArg some acz)
 f243:=func152.trans (congrArg some acz)
 f246:=func215.trans (congrArg some acz)
 f283:=func251.trans (congrArg some acz)
 f284:=func252.trans (congrArg some acz)
 f285:=func253.trans (congrArg some acz)
 f286:=func254.trans (congrArg some acz)
 f317:=func267.trans (congrArg some acz)
 f318:=func269.trans (congrArg some acz)
 f319:=func270.trans (congrArg some acz)
 f320:=func271.trans (congrArg some acz)
 f337:=func286.trans (congrArg some acz)
 f338:=func287.trans (congrArg some acz)
 t0:=underlying0
 a0:=Tryz.isAgg0
 z0:=Tryz.sizeOf0
 v0:=Tryz.zeroValue0
 t2:=underlying2
 a2:=Tryz.isAgg2
 z2:=Tryz.sizeOf2
 v2:=Tryz.zeroValue2
 t3:=underlying3
 a3:=Tryz.isAgg3
 z3:=Tryz.sizeOf3
 v3:=Tryz.zeroValue3
 t4:=underlying4
 a4:=Tryz.isAgg4
 z4:=Tryz.sizeOf4
 v4:=Tryz.zeroValue4
 t5:=underlying5
 a5:=Tryz.isAgg5
 z5:=Tryz.sizeOf5
 v5:=Tryz.zeroValue5
 t9:=underlying9
 a9:=Tryz.isAgg9
 z9:=Tryz.sizeOf9
 v9:=Tryz.zeroValue9
 t20:=underlying20
 a20:=Tryz.isAgg20
 z20:=Tryz.sizeOf20
 v20:=Tryz.zeroValue20
 t37:=underlying58
 a37:=Tryz.isAgg58
 z37:=Tryz.sizeOf58
 v37:=Tryz.zeroValue58
 t46:=underlying217
 a46:=Tryz.isAgg217
 z46:=Tryz.sizeOf217
 v46:=Tryz.zeroValue217
 t51:=underlying250
 a51:=Tryz.isAgg250
 z51:=Tryz.sizeOf250
 v51:=Tryz.zeroValue250
 t53:=underlying261
 a53:=Tryz.isAgg261
 z53:=Tryz.sizeOf261
 v53:=Tryz.zeroValue261
 t171:=underlying300
 a171:=Tryz.isAgg300
 z171:=Tryz.sizeOf300
 v171:=Tryz.zeroValue300
 t173:=underlying303
 a173:=Tryz.isAgg303
 z173:=Tryz.sizeOf303
 v173:=Tryz.zeroValue303
 t212:=underlying322
 a212:=Tryz.isAgg322
 z212:=Tryz.sizeOf322
 v212:=Tryz.zeroValue322
 t213:=underlying323
 a213:=Tryz.isAgg323
 z213:=Tryz.sizeOf323
 t232:=underlying338
 a232:=Tryz.isAgg338
 z232:=Tryz.sizeOf338
 v232:=Tryz.zeroValue338
 t233:=underlying339
 a233:=Tryz.isAgg339
 z233:=Tryz.sizeOf339
 v233:=Tryz.zeroValue339
 g17:=acz
 g18:=acz
 g19:=acz
 i0:=acz
 i2:=acz
 i3:=acz
 i4:=acz
 i5:=acz
 i9:=acz
 i20:=acz
 i37:=acz
 i46:=acz
 i51:=acz
 i53:=acz
 i171:=acz
 i173:=acz
 i212:=acz
 i232:=acz
 i233:=acz
 m17:=acz
 m18:=acz
 m19:=by kernel_rfl}
open Go.RowKit Go.Sort Go.Lib in
theorem Tryz.strconv_Itoa (n:Int) (h0:-9223372036854775808<=n) (h1:n<=9223372036854775807) (w:World) (htab:Lib.TabIs prog w "internal/strconv.uint64pow10" .u64 Lib.pow10Tab):
 Calls prog 78 #[U n] w fun e w'=>e=.returned (.string ⟨(Lib.itoa n).toArray⟩)/\∃k os,w'=grow (w.drewN k) os:=Any.strconv_Itoa Tryz.laysM171 n h0 h1 w htab
def Tryz.laysC245_ren:Go.Shelf.Ren:=⟨fun|245=>151|279=>211|280=>212|281=>213|282=>214|316=>249|171=>78|205=>250|243=>152|246=>215|283=>251|284=>252|285=>253|286=>254|129=>268|317=>267|318=>269|319=>270|320=>271|337=>286|338=>287|n=>n,fun|9=>9|3=>3|75=>141|167=>254|4=>4|168=>257|210=>298|37=>58|0=>0|127=>218|145=>320|143=>318|2=>2|171=>300|53=>261|5=>5|173=>303|212=>322|51=>250|20=>20|213=>323|46=>217|232=>338|233=>339|80=>167|n=>n,fun|15=>4|16=>5|17=>6|18=>8|19=>9|n=>n⟩
theorem Tryz.laysC245:Go.Proofs.LaysC.n245 prog Tryz.laysC245_ren:={
 mixed:=acz
 f129:=func268.trans (congrArg some acz)
 f171:=func78.trans (congrArg some acz)
 f205:=func250.trans (congrArg some acz)
 f243:=func152.trans (congrArg some acz)
 f245:=func151.trans (congrArg some acz)
 f246:=func215.trans (congrArg some acz)
 f279:=func211.trans (congrArg some acz)
 f280:=func212.trans (congrArg some acz)
 f281:=func213.trans (congrArg some acz)
 f282:=func214.trans (congrArg some acz)
 f283:=func251.trans (congrArg some acz)
 f284:=func252.trans (congrArg some acz)
 f285:=func253.trans (congrArg some acz)
 f286:=func254.trans (congrArg some acz)
 f316:=func249.trans (congrArg some acz)
 f317:=func267.trans (congrArg some acz)
 f318:=func269.trans (congrArg some acz)
 f319:=func270.trans (congrArg some acz)
 f320:=func271.trans (congrArg some acz)
 f337:=func286.trans (congrArg some acz)
 f338:=func287.trans (congrArg some acz)
 t0:=underlying0
 a0:=Tryz.isAgg0
 z0:=Tryz.sizeOf0
 v0:=Tryz.zeroValue0
 t2:=underlying2
 a2:=Tryz.isAgg2
 z2:=Tryz.sizeOf2
 v2:=Tryz.zeroValue2
 t3:=underlying3
 a3:=Tryz.isAgg3
 z3:=Tryz.sizeOf3
 v3:=Tryz.zeroValue3
 t4:=underlying4
 a4:=Tryz.isAgg4
 z4:=Tryz.sizeOf4
 v4:=Tryz.zeroValue4
 t5:=underlying5
 a5:=Tryz.isAgg5
 z5:=Tryz.sizeOf5
 v5:=Tryz.zeroValue5
 t9:=underlying9
 a9:=Tryz.isAgg9
 z9:=Tryz.sizeOf9
 v9:=Tryz.zeroValue9
 t20:=underlying20
 a20:=Tryz.isAgg20
 z20:=Tryz.sizeOf20
 v20:=Tryz.zeroValue20
 t37:=underlying58
 a37:=Tryz.isAgg58
 z37:=Tryz.sizeOf58
 v37:=Tryz.zeroValue58
 t46:=underlying217
 a46:=Tryz.isAgg217
 z46:=Tryz.sizeOf217
 v46:=Tryz.zeroValue217
 t51:=underlying250
 a51:=Tryz.isAgg250
 z51:=Tryz.sizeOf250
 v51:=Tryz.zeroValue250
 t53:=underlying261
 a53:=Tryz.isAgg261
 z53:=Tryz.sizeOf261
 v53:=Tryz.zeroValue261
 t75:=underlying141
 a75:=Tryz.isAgg141
 z75:=Tryz.sizeOf141
 v75:=Tryz.zeroValue141
 t127:=underlying218
 a127:=Tryz.isAgg218
 z127:=Tryz.sizeOf218
 v127:=Tryz.zeroValue218
 t143:=underlying318
 a143:=Tryz.isAgg318
 z143:=Tryz.sizeOf318
 v143:=Tryz.zeroValue318
 t145:=underlying320
 a145:=Tryz.isAgg320
 z145:=Tryz.sizeOf320
 v145:=Tryz.zeroValue320
 t167:=underlying254
 a167:=Tryz.isAgg254
 z167:=Tryz.sizeOf254
 v167:=Tryz.zeroValue254
 t168:=underlying257
 a168:=Tryz.isAgg257
 z168:=Tryz.sizeOf257
 v168:=Tryz.zeroValue257
 t171:=underlying300
 a171:=Tryz.isAgg300
 z171:=Tryz.sizeOf300
 v171:=Tryz.zeroValue300
 t173:=underlying303
 a173:=Tryz.isAgg303
 z173:=Tryz.sizeOf303
 v173:=Tryz.zeroValue303
 t210:=underlying298
 a210:=Tryz.isAgg298
 z210:=Tryz.sizeOf298
 v210:=Tryz.zeroValue298
 t212:=underlying322
 a212:=Tryz.isAgg322
 z212:=Tryz.sizeOf322
 v212:=Tryz.zeroValue322
 t213:=underlying323
 a213:=Tryz.isAgg323
 z213:=Tryz.sizeOf323
 t232:=underlying338
 a232:=Tryz.isAgg338
 z232:=Tryz.sizeOf338
 v232:=Tryz.zeroValue338
 t233:=underlying339
 a233:=Tryz.isAgg339
 z233:=Tryz.sizeOf339
 v233:=Tryz.zeroValue339
 g15:=acz
 g16:=acz
 g17:=acz
 g18:=acz
 g19:=acz
 t80:=underlying167
 a80:=Tryz.isAgg167
 z80:=Tryz.sizeOf167
 v80:=Tryz.zeroValue167
 i0:=acz
 i2:=acz
 i3:=acz
 i4:=acz
 i5:=acz
 i9:=acz
 i20:=acz
 i37:=acz
 i46:=acz
 i51:=acz
 i53:=acz
 i75:=acz
 i80:=acz
 i127:=acz
 i143:=acz
 i145:=acz
 i167:=acz
 i168:=acz
 i171:=acz
 i173:=acz
 i210:=acz
 i212:=acz
 i232:=acz
 i233:=acz
 m15:=acz
 m16:=acz
 m17:=acz
 m18:=acz
 m19:=acz
 c0:=acz
 c2:=acz
 c3:=acz
 c4:=acz
 c5:=acz
 c9:=acz
 c20:=acz
 c37:=acz
 c46:=acz
 c51:=acz
 c53:=acz
 c75:=acz
 c80:=acz
 c127:=acz
 c143:=acz
 c145:=acz
 c167:=acz
 c168:=acz
 c171:=acz
 c173:=acz
 c210:=acz
 c212:=acz
 c213:=acz
 c232:=acz
 c233:=by kernel_rfl}
open Go.RowKit in
theorem Tryz.strconv_toError_syntax (fn s:ByteArray) (base bits:Int) (ev:Value) (w:World) (hlim:s.size<=281474976710656) (hv:w.cell? ⟨4,0,none⟩=some ev) (hev:ev=.nilIface\/∃te pe,ev=.iface te pe):
 Calls prog 151 #[.string fn,.string s,U base,U bits,.iface 254 (U 2)] w fun e w'=>∃N,e=.returned (.iface 257 (.pointer (O N)))/\w.heap.size<=N/\w'.heap[N]?=some (.cells #[.string fn,.string s,ev] 298 (0,0))/\Below w.heap.size w w':=Any.strconv_toError_syntax Tryz.laysC245 fn s base bits ev w hlim hv hev
def Tryz.lays321_ren:Go.Shelf.Ren:=⟨fun|321=>265|n=>n,fun|5=>5|n=>n,fun|n=>n⟩
theorem Tryz.lays321:Go.Proofs.Lays.n321 prog Tryz.lays321_ren:={
 mixed:=acz
 f321:=func265.trans (congrArg some acz)
 t5:=underlying5
 a5:=Tryz.isAgg5
 z5:=Tryz.sizeOf5
 v5:=Tryz.zeroValue5}
open Go.RowKit in
theorem Tryz.internal_strconv_lower (c:Int) (w:World):
 Calls prog 265 #[.int .u8 c] w fun e w'=>e=.returned (.int .u8 (bits .or .u8 c 32))/\w'=w:=Any.internal_strconv_lower Tryz.lays321 c w
def Tryz.laysC172_ren:Go.Shelf.Ren:=⟨fun|172=>77|244=>150|245=>151|247=>210|279=>211|280=>212|281=>213|282=>214|287=>248|316=>249|171=>78|205=>250|321=>265|322=>266|243=>152|246=>215|283=>251|284=>252|285=>253|286=>254|129=>268|317=>267|318=>269|319=>270|320=>271|337=>286|338=>287|n=>n,fun|9=>9|3=>3|75=>141|76=>142|4=>4|5=>5|167=>254|37=>58|0=>0|85=>255|2=>2|168=>257|53=>261|175=>262|46=>217|210=>298|127=>218|145=>320|143=>318|21=>21|171=>300|173=>303|212=>322|51=>250|20=>20|213=>323|232=>338|233=>339|80=>167|n=>n,fun|15=>4|16=>5|17=>6|18=>8|19=>9|n=>n⟩
theorem Tryz.laysC172:Go.Proofs.LaysC.n172 prog Tryz.laysC172_ren:={
 mixed:=acz
 f129:=func268.trans (congrArg some acz)
 f171:=func78.trans (congrArg some acz)
 f172:=func77.trans (congrArg some acz)
 f205:=func250.trans (congrArg some acz)
 f243:=func152.trans (congrArg some acz)
 f244:=func150.trans (congrArg some acz)
 f245:=func151.trans (congrArg some acz)
 f246:=func215.trans (congrArg some acz)
 f247:=func210.trans (congrArg some acz)
 f279:=func211.trans (congrArg some acz)
 f280:=func212.trans (congrArg some acz)
 f281:=func213.trans (congrArg some acz)
 f282:=func214.trans (congrArg some acz)
 f283:=func251.trans (congrArg some acz)
 f284:=func252.trans (congrArg some acz)
 f285:=func253.trans (congrArg some acz)
 f286:=func254.trans (congrArg some acz)
 f287:=func248.trans (congrArg some acz)
 f316:=func249.trans (congrArg some acz)
 f317:=func267.trans (congrArg some acz)
 f318:=func269.trans (congrArg some acz)
 f319:=func270.trans (congrArg some acz)
 f320:=func271.trans (congrArg some acz)
 f321:=func265.trans (congrArg some acz)
 f322:=func266.trans (congrArg some acz)
 f337:=func286.trans (congrArg some acz)
 f338:=func287.trans (congrArg some acz)
 t0:=underlying0
 a0:=Tryz.isAgg0
 z0:=Tryz.sizeOf0
 v0:=Tryz.zeroValue0
 t2:=underlying2
 a2:=Tryz.isAgg2
 z2:=Tryz.sizeOf2
 v2:=Tryz.zeroValue2
 t3:=underlying3
 a3:=Tryz.isAgg3
 z3:=Tryz.sizeOf3
 v3:=Tryz.zeroValue3
 t4:=underlying4
 a4:=Tryz.isAgg4
 z4:=Tryz.sizeOf4
 v4:=Tryz.zeroValue4
 t5:=underlying5
 a5:=Tryz.isAgg5
 z5:=Tryz.sizeOf5
 v5:=Tryz.zeroValue5
 t9:=underlying9
 a9:=Tryz.isAgg9
 z9:=Tryz.sizeOf9
 v9:=Tryz.zeroValue9
 t20:=underlying20
 a20:=Tryz.isAgg20
 z20:=Tryz.sizeOf20
 v20:=Tryz.zeroValue20
 t21:=underlying21
 a21:=Tryz.isAgg21
 z21:=Tryz.sizeOf21
 v21:=Tryz.zeroValue21
 t37:=underlying58
 a37:=Tryz.isAgg58
 z37:=Tryz.sizeOf58
 v37:=Tryz.zeroValue58
 t46:=underlying217
 a46:=Tryz.isAgg217
 z46:=Tryz.sizeOf217
 v46:=Tryz.zeroValue217
 t51:=underlying250
 a51:=Tryz.isAgg250
 z51:=Tryz.sizeOf250
 v51:=Tryz.zeroValue250
 t53:=underlying261
 a53:=Tryz.isAgg261
 z53:=Tryz.sizeOf261
 v53:=Tryz.zeroValue261
 t75:=underlying141
 a75:=Tryz.isAgg141
 z75:=Tryz.sizeOf141
 v75:=Tryz.zeroValue141
 t76:=underlying142
 a76:=Tryz.isAgg142
 z76:=Tryz.sizeOf142
 v76:=Tryz.zeroValue142
 t85:=underlying255
 a85:=Tryz.isAgg255
 z85:=Tryz.sizeOf255
 v85:=Tryz.zeroValue255
 t127:=underlying218
 a127:=Tryz.isAgg218
 z127:=Tryz.sizeOf218
 v127:=Tryz.zeroValue218
 t143:=underlying318
 a143:=Tryz.isAgg318
 z143:=Tryz.sizeOf318
 v143:=Tryz.zeroValue318
 t145:=underlying320
 a145:=Tryz.isAgg320
 z145:=Tryz.sizeOf320
 v145:=Tryz.zeroValue320
 t167:=underlying254
 a167:=Tryz.isAgg254
 z167:=Tryz.sizeOf254
 v167:=Tryz.zeroValue254
 t168:=underlying257
 a168:=Tryz.isAgg257
 z168:=Tryz.sizeOf257
 v168:=Tryz.zeroValue257
 t171:=underlying300
 a171:=Tryz.isAgg300
 z171:=Tryz.sizeOf300
 v171:=Tryz.zeroValue300
 t173:=underlying303
 a173:=Tryz.isAgg303
 z173:=Tryz.sizeOf303
 v173:=Tryz.zeroValue303
 t175:=underlying262
 a175:=Tryz.isAgg262
 z175:=Tryz.sizeOf262
 v175:=Tryz.zeroValue262
 t210:=underlying298
 a210:=Tryz.isAgg298
 z210:=Tryz.sizeOf298
 v210:=Tryz.zeroValue298
 t212:=underlying322
 a212:=Tryz.isAgg322
 z212:=Tryz.sizeOf322
 v212:=Tryz.zeroValue322
 t213:=underlying323
 a213:=Tryz.isAgg323
 z213:=Tryz.sizeOf323
 t232:=underlying338
 a232:=Tryz.isAgg338
 z232:=Tryz.sizeOf338
 v232:=Tryz.zeroValue338
 t233:=underlying339
 a233:=Tryz.isAgg339
 z233:=Tryz.sizeOf339
 v233:=Tryz.zeroValue339
 g15:=acz
 g16:=acz
 g17:=acz
 g18:=acz
 g19:=acz
 t80:=underlying167
 a80:=Tryz.isAgg167
 z80:=Tryz.sizeOf167
 v80:=Tryz.zeroValue167
 i0:=acz
 i2:=acz
 i3:=acz
 i4:=acz
 i5:=acz
 i9:=acz
 i20:=acz
 i21:=acz
 i37:=acz
 i46:=acz
 i51:=acz
 i53:=acz
 i75:=acz
 i76:=acz
 i80:=acz
 i85:=acz
 i127:=acz
 i143:=acz
 i145:=acz
 i167:=acz
 i168:=acz
 i171:=acz
 i173:=acz
 i175:=acz
 i210:=acz
 i212:=acz
 i232:=acz
 i233:=acz
 m15:=acz
 m16:=acz
 m17:=acz
 m18:=acz
 m19:=acz
 c0:=acz
 c2:=acz
 c3:=acz
 c4:=acz
 c5:=acz
 c9:=acz
 c20:=acz
 c21:=acz
 c37:=acz
 c46:=acz
 c51:=acz
 c53:=acz
 c75:=acz
 c76:=acz
 c80:=acz
 c85:=acz
 c127:=acz
 c143:=acz
 c145:=acz
 c167:=acz
 c168:=acz
 c171:=acz
 c173:=acz
 c175:=acz
 c210:=acz
 c212:=acz
 c213:=acz
 c232:=acz
 c233:=by kernel_rfl}
open Go.RowKit in
theorem Tryz.strconv_Atoi_ok (s:ByteArray) (hmax:s.size<=9223372036854775806) (v:Int) (h:Lib.atoiAll s.data.toList=.ok v) (w:World):
 Calls prog 77 #[.string s] w fun e w'=>e=.returned (.tuple #[U v,.nilIface])/\(w'=w\/∃t,w'=Lib.bytesWorld w 5 t):=Any.strconv_Atoi_ok Tryz.laysC172 s hmax v h w
def Tryz.lays144_ren:Go.Shelf.Ren:=⟨fun|144=>75|143=>149|219=>209|217=>153|225=>245|224=>246|267=>247|266=>216|314=>264|n=>n,fun|9=>9|4=>4|3=>3|5=>5|46=>217|146=>315|51=>250|n=>n,fun|1=>3|n=>n⟩
theorem Tryz.lays144:Go.Proofs.Lays.n144 prog Tryz.lays144_ren:={
 mixed:=acz
 f143:=func149.trans (congrArg some acz)
 f144:=func75.trans (congrArg some acz)
 f217:=func153.trans (congrArg some acz)
 f219:=func209.trans (congrArg some acz)
 f224:=func246.trans (congrArg some acz)
 f225:=func245.trans (congrArg some acz)
 f266:=func216.trans (congrArg some acz)
 f267:=func247.trans (congrArg some acz)
 f314:=func264.trans (congrArg some acz)
 t3:=underlying3
 a3:=Tryz.isAgg3
 z3:=Tryz.sizeOf3
 v3:=Tryz.zeroValue3
 t4:=underlying4
 a4:=Tryz.isAgg4
 z4:=Tryz.sizeOf4
 v4:=Tryz.zeroValue4
 t5:=underlying5
 a5:=Tryz.isAgg5
 z5:=Tryz.sizeOf5
 v5:=Tryz.zeroValue5
 t9:=underlying9
 a9:=Tryz.isAgg9
 z9:=Tryz.sizeOf9
 v9:=Tryz.zeroValue9
 t46:=underlying217
 a46:=Tryz.isAgg217
 z46:=Tryz.sizeOf217
 v46:=Tryz.zeroValue217
 t51:=underlying250
 a51:=Tryz.isAgg250
 z51:=Tryz.sizeOf250
 v51:=Tryz.zeroValue250
 t146:=underlying315
 a146:=Tryz.isAgg315
 z146:=Tryz.sizeOf315
 v146:=Tryz.zeroValue315
 g1:=by kernel_rfl}
open Go.RowKit Go.Lib in
theorem Tryz.strings_Contains (s sub:ByteArray) (m:Int) (w:World) (hs:s.size<4294967281) (hm:w.cell? ⟨3,0,none⟩=some (U m)):
 Calls prog 75 #[.string s,.string sub] w fun e w'=>e=.returned (.bool (Lib.contains s.data.toList sub.data.toList))/\w'=w:=Any.strings_Contains Tryz.lays144 s sub m w hs hm
def Tryz.lays99_ren:Go.Shelf.Ren:=⟨fun|99=>81|206=>156|n=>n,fun|9=>9|4=>4|3=>3|n=>n,fun|n=>n⟩
theorem Tryz.lays99:Go.Proofs.Lays.n99 prog Tryz.lays99_ren:={
 mixed:=acz
 f99:=func81.trans (congrArg some acz)
 f206:=func156.trans (congrArg some acz)
 t3:=underlying3
 a3:=Tryz.isAgg3
 z3:=Tryz.sizeOf3
 v3:=Tryz.zeroValue3
 t4:=underlying4
 a4:=Tryz.isAgg4
 z4:=Tryz.sizeOf4
 v4:=Tryz.zeroValue4
 t9:=underlying9
 a9:=Tryz.isAgg9
 z9:=Tryz.sizeOf9
 v9:=Tryz.zeroValue9}
open Go.RowKit Go.Lib in
theorem Tryz.strings_HasPrefix (s p:ByteArray) (w:World):
 Calls prog 81 #[.string s,.string p] w fun e w'=>e=.returned (.bool (Lib.hasPrefix s.data.toList p.data.toList))/\w'=w:=Any.strings_HasPrefix Tryz.lays99 s p w
def Tryz.laysM202_ren:Go.Shelf.Ren:=⟨fun|202=>148|261=>208|311=>243|312=>244|n=>n,fun|21=>21|4=>4|51=>250|5=>5|119=>251|0=>0|141=>253|196=>289|193=>286|3=>3|198=>291|49=>60|194=>287|201=>294|226=>313|46=>217|227=>314|n=>n,fun|7=>1|10=>2|n=>n⟩
theorem Tryz.laysM202:Go.Proofs.LaysM.n202 prog Tryz.laysM202_ren:={
 mixed:=acz
 f202:=func148.trans (congrArg some acz)
 f261:=func208.trans (congrArg some acz)
 f311:=func243.trans (congrArg some acz)
 f312:=func244.trans (congrArg some acz)
 t0:=underlying0
 a0:=Tryz.isAgg0
 z0:=Tryz.sizeOf0
 v0:=Tryz.zeroValue0
 t3:=underlying3
 a3:=Tryz.isAgg3
 z3:=Tryz.sizeOf3
 v3:=Tryz.zeroValue3
 t4:=underlying4
 a4:=Tryz.isAgg4
 z4:=Tryz.sizeOf4
 v4:=Tryz.zeroValue4
 t5:=underlying5
 a5:=Tryz.isAgg5
 z5:=Tryz.sizeOf5
 v5:=Tryz.zeroValue5
 t21:=underlying21
 a21:=Tryz.isAgg21
 z21:=Tryz.sizeOf21
 v21:=Tryz.zeroValue21
 t46:=underlying217
 a46:=Tryz.isAgg217
 z46:=Tryz.sizeOf217
 v46:=Tryz.zeroValue217
 t49:=underlying60
 a49:=Tryz.isAgg60
 z49:=Tryz.sizeOf60
 v49:=Tryz.zeroValue60
 t51:=underlying250
 a51:=Tryz.isAgg250
 z51:=Tryz.sizeOf250
 v51:=Tryz.zeroValue250
 t119:=underlying251
 a119:=Tryz.isAgg251
 z119:=Tryz.sizeOf251
 t141:=underlying253
 a141:=Tryz.isAgg253
 z141:=Tryz.sizeOf253
 v141:=Tryz.zeroValue253
 t193:=underlying286
 a193:=Tryz.isAgg286
 z193:=Tryz.sizeOf286
 v193:=Tryz.zeroValue286
 t194:=underlying287
 a194:=Tryz.isAgg287
 z194:=Tryz.sizeOf287
 v194:=Tryz.zeroValue287
 t196:=underlying289
 a196:=Tryz.isAgg289
 z196:=Tryz.sizeOf289
 v196:=Tryz.zeroValue289
 t198:=underlying291
 a198:=Tryz.isAgg291
 z198:=Tryz.sizeOf291
 v198:=Tryz.zeroValue291
 t201:=underlying294
 a201:=Tryz.isAgg294
 z201:=Tryz.sizeOf294
 v201:=Tryz.zeroValue294
 t226:=underlying313
 a226:=Tryz.isAgg313
 z226:=Tryz.sizeOf313
 v226:=Tryz.zeroValue313
 t227:=underlying314
 a227:=Tryz.isAgg314
 z227:=Tryz.sizeOf314
 v227:=Tryz.zeroValue314
 g7:=acz
 g10:=acz
 i0:=acz
 i3:=acz
 i4:=acz
 i5:=acz
 i21:=acz
 i46:=acz
 i49:=acz
 i51:=acz
 i141:=acz
 i193:=acz
 i194:=acz
 i196:=acz
 i198:=acz
 i201:=acz
 i226:=acz
 i227:=acz
 m7:=acz
 m10:=by kernel_rfl}
open Go.RowKit Go.Lib in
theorem Tryz.unicode_IsLower_laid (c:Nat) (w:World) (hc:c<256) (htab:Lib.TabIs prog w "unicode.properties" .u8 Lib.propertiesTab):
 Calls prog 148 #[.int .i32 c] w fun e w'=>e=.returned (.bool (Lib.isLowerL c))/\w'=w:=Any.unicode_IsLower_laid Tryz.laysM202 c w hc htab
def Tryz.lays110_ren:Go.Shelf.Ren:=⟨fun|110=>64|109=>143|n=>n,fun|31=>38|9=>9|4=>4|3=>3|0=>0|n=>n,fun|n=>n⟩
theorem Tryz.lays110:Go.Proofs.Lays.n110 prog Tryz.lays110_ren:={
 mixed:=acz
 f109:=func143.trans (congrArg some acz)
 f110:=func64.trans (congrArg some acz)
 t0:=underlying0
 a0:=Tryz.isAgg0
 z0:=Tryz.sizeOf0
 v0:=Tryz.zeroValue0
 t3:=underlying3
 a3:=Tryz.isAgg3
 z3:=Tryz.sizeOf3
 v3:=Tryz.zeroValue3
 t4:=underlying4
 a4:=Tryz.isAgg4
 z4:=Tryz.sizeOf4
 v4:=Tryz.zeroValue4
 t9:=underlying9
 a9:=Tryz.isAgg9
 z9:=Tryz.sizeOf9
 v9:=Tryz.zeroValue9
 t31:=underlying38
 a31:=Tryz.isAgg38
 z31:=Tryz.sizeOf38
 v31:=Tryz.zeroValue38}
open Go.Lib in
theorem Tryz.slices_Contains_string (b off n c:Nat) (zs:List ByteArray) (x:ByteArray) (w:World) (hz:n<=zs.length) (hbig:n<=9223372036854775807) (hc:∀j,j<zs.length->w.cell? ⟨b,off+j,none⟩=some (.string (zs.getD j ByteArray.empty))):
 Calls prog 64 #[.slice (some ⟨b,off,none⟩) n c,.string x] w fun e w'=>e=.returned (.bool (Lib.containsS (zs.take n) x))/\w'=w:=Any.slices_Contains_string Tryz.lays110 b off n c zs x w hz hbig hc
open Go.Lib in
theorem Tryz.slices_Contains_string_empty (a:Option Addr) (c:Nat) (x:ByteArray) (w:World):
 Calls prog 64 #[.slice a 0 c,.string x] w fun e w'=>e=.returned (.bool false)/\w'=w:=Any.slices_Contains_string_empty Tryz.lays110 a c x w
end Go.Proofs
namespace Go.Proofs.YtimoefagohifaaaGreatDoor
open Tryz
abbrev Bytes:=List UInt8
structure V where
 k:Int
 n:Int
 s:ByteArray
def V.val (v:V):Value:=.agg #[U v.k,U v.n,.string v.s]
def V.null:V:=⟨0,0,⟨#[]⟩⟩
def b2i (b:Bool):Int:=if b then 1 else 0
def V.bool (b:Bool):V:=⟨3,b2i b,⟨#[]⟩⟩
def V.num (n:Int):V:=⟨1,n,⟨#[]⟩⟩
def V.right (v:V):Bool:=
 if v.k=0 then decide (v.n=0)&&v.s.toList.isEmpty
 else if v.k=1 then decide (-549755813888<=v.n)&&decide (v.n<=549755813887)&&v.s.toList.isEmpty
 else if v.k=2 then decide (v.n=0)&&decide (v.s.size<=40)
 else if v.k=3 then(decide (v.n=0)||decide (v.n=1))&&v.s.toList.isEmpty
 else false
def V.Wf (v:V):Prop:=-9223372036854775808<=v.n/\v.n<=9223372036854775807
instance:DecidableEq V:=fun a b=>by
 by_cases hk:a.k=b.k
 ·by_cases hn:a.n=b.n
  ·by_cases hs:a.s=b.s
   ·exact isTrue (by cases a;cases b;simp_all)
   ·exact isFalse (by intro h;exact hs (by rw[h]))
  ·exact isFalse (by intro h;exact hn (by rw[h]))
 ·exact isFalse (by intro h;exact hk (by rw[h]))
def V.same (a b:V):Bool:=decide (a=b)
theorem V.ext_iff (a b:V):a=b↔a.k=b.k/\a.n=b.n/\a.s=b.s:=by cases a;cases b;simp
theorem Dy (a b:ByteArray):a.toList=b.toList↔a=b:=by
 rw[ByteArray.toList_eq,ByteArray.toList_eq];obtain⟨⟨x⟩⟩:=a;obtain⟨⟨y⟩⟩:=b;simp
def plainB (c:Int):Bool:=decide (32<=c)&&decide (c<=126)&&c != 39&&c != 92
def hexD (n:Nat):UInt8:=UInt8.ofNat (if n<10 then 48+n else 87+n)
def escB (c:UInt8):List UInt8:=if plainB (c.toNat:Int)then[c]else[92,hexD (c.toNat/16),hexD (c.toNat % 16)]
def printText (s:ByteArray):List UInt8:=39::(s.data.toList.flatMap escB++[39])
theorem tg (n:Nat) (h:n<16):n=0\/n=1\/n=2\/n=3\/n=4\/n=5\/n=6\/n=7\/n=8\/n=9\/n=10\/n=11\/n=12\/n=13\/n=14\/n=15:=acw
def V.print (v:V):List UInt8:=
 if v.k=1 then Lib.itoa v.n else if v.k=3 then Lib.formatBool (v.n==1)else if v.k=0 then[110,117,108,108]else printText v.s
def hexVal (b:UInt8):Option Nat:=
 if 48<=b.toNat/\b.toNat<=57 then some (b.toNat - 48)else if 97<=b.toNat/\b.toNat<=102 then some (b.toNat - 87)else if 65<=b.toNat/\b.toNat<=70 then some (b.toNat - 55)else none
def hexs:Nat->List UInt8->Option Nat
 | acc,[]=>some acc
 | acc,c::l=>match hexVal c with|some d=>hexs (acc * 16+d) l|none=>none
def unq:List UInt8->Option (List UInt8)
 | []=>some []
 | c::l=>
  if c=92 then
   match l with
   | a::b::r=>match hexs 0 [a,b]with
    | some n=>if plainB (n:Int)||(Lib.toLowerA [a,b] != [a,b])then none else(unq r).map (UInt8.ofNat n::·)
    | none=>none
   | _=>none
  else if plainB (c.toNat:Int)then(unq l).map (c::·)else none
def quo (L:List UInt8):Option (List UInt8):=if L.length<2\/L.getD 0 0≠39\/L.getD (L.length - 1) 0≠39 then none else unq ((L.drop 1).take (L.length - 2))
theorem L4 {c:UInt8} {l:List UInt8} (h92:c≠92) (hp:plainB (c.toNat:Int)=true):unq (c::l)=(unq l).map (c::·):=by
 rcases l with _|⟨a,_|⟨b,r⟩⟩
 ·simp[unq,h92,hp]
 ·rw[unq,if_neg h92,if_pos hp];simp
 ·rw[unq,if_neg h92,if_pos hp]
theorem U8 {c:UInt8} {l:List UInt8} (h92:c≠92) (hp:plainB (c.toNat:Int)=false):unq (c::l)=none:=by
 rcases l with _|⟨a,_|⟨b,r⟩⟩
 ·rw[unq,if_neg h92,if_neg (by simp[hp])];simp
 ·rw[unq,if_neg h92,if_neg (by simp[hp])];simp
 ·rw[unq,if_neg h92,if_neg (by simp[hp])]
theorem U7 {a b:UInt8} {r:List UInt8} {n:Nat} (h:hexs 0 [a,b]=some n) (hp:plainB (n:Int)=false) (hl:(Lib.toLowerA [a,b] != [a,b])=false):unq (92::a::b::r)=(unq r).map (UInt8.ofNat n::·):=by
 rw[unq,if_pos rfl];simp only[h,hp,hl];rfl
theorem Ok {a b:UInt8} {r:List UInt8} (h:hexs 0 [a,b]=none):unq (92::a::b::r)=none:=by rw[unq,if_pos rfl];simp only[h]
theorem Hc {a b:UInt8} {r:List UInt8} {n:Nat} (h:hexs 0 [a,b]=some n) (hp:plainB (n:Int)=true\/(Lib.toLowerA [a,b] != [a,b])=true):unq (92::a::b::r)=none:=by
 rw[unq,if_pos rfl];simp only[h];rcases hp with hp|hp<;>simp only[hp,aa9,Bool.or_true,if_true]
theorem V2 {l:List UInt8} (h:l.length<2):unq (92::l)=none:=by
 rcases l with _|⟨a,_|⟨b,r⟩⟩
 ·rw[unq,if_pos rfl];simp
 ·rw[unq,if_pos rfl];simp
 ·simp at h;omega
def bNull:List UInt8:=[110,117,108,108]
def bTrue:List UInt8:=[116,114,117,101]
def bFalse:List UInt8:=[102,97,108,115,101]
def ifRight (v:V):Option V:=if v.right then some v else none
def parseP (L:List UInt8):Option V:=
 if L=bNull then some V.null else if L=bTrue then some (V.bool true)else if L=bFalse then some (V.bool false)
 else match quo L with
  | some t=>ifRight ⟨2,0,⟨t.toArray⟩⟩
  | none=>match Lib.atoiAll L with
   | .ok n=>if Lib.itoa n=L then ifRight (V.num n)else none
   | _=>none
theorem Cm {v:V} (h:v.right=true):(v.k=0/\v.n=0/\v.s=⟨#[]⟩)\/(v.k=1/\v.s=⟨#[]⟩/\-549755813888<=v.n/\v.n<=549755813887)\/(v.k=2/\v.n=0/\v.s.size<=40)\/(v.k=3/\(v.n=0\/v.n=1)/\v.s=⟨#[]⟩):=by
 have hs:∀s:ByteArray,s.toList.isEmpty=true->s=⟨#[]⟩:=fun s h=>(Dy _ _).1 (by rw[List.isEmpty_iff.1 h];simp[ByteArray.toList_eq]);unfold V.right at h;split at h
 ·simp at h;exact .inl ⟨by assumption,h.1,hs _ (by simp[h.2])⟩
 split at h
 ·simp at h;exact .inr (.inl ⟨by assumption,hs _ (by simp[h.2]),h.1.1,h.1.2⟩)
 split at h
 ·simp at h;exact .inr (.inr (.inl ⟨by assumption,h.1,h.2⟩))
 split at h
 ·simp at h;exact .inr (.inr (.inr ⟨by assumption,h.1,hs _ (by simp[h.2])⟩))
 ·cases h
theorem digB (d:Nat) (h:d<10):(UInt8.ofNat (48+d)).toNat=48+d:=by simp;omega
theorem Er (m:Nat):∀c∈Lib.decDigits m,48<=c.toNat/\c.toNat<=57:=by
 induction m using Nat.strongRecOn with
 | _ m ih=>
  rw[Lib.decDigits];split
  ·rename_i h;intro c hc;simp only[vh]at hc;subst hc;rw[digB _ h];omega
  ·rename_i h;intro c hc;rcases wi.1 hc with hc|hc
   ·exact ih (m/10) acw c hc
   ·simp only[vh]at hc;subst hc;rw[digB _ acw];omega
theorem Fr (m:Nat):Lib.decDigits m≠[]:=by
 rw[Lib.decDigits];split<;>simp
theorem Jq (m:Nat):m<=1000000000000000->∀r,Lib.parseUint10 0 (Lib.decDigits m++r)=Lib.parseUint10 m r:=by
 induction m using Nat.strongRecOn with
 | _ m ih=>
  intro hm r;rw[Lib.decDigits];split
  ·rename_i h;simp only[tz,uc,Lib.parseUint10,digB m h];rw[if_pos acw,if_neg acw,if_neg acw];congr 1;omega
  ·rename_i h;rw[uv,ih (m/10) acw acw];simp only[tz,uc,Lib.parseUint10,digB (m % 10) acw];rw[if_pos acw,if_neg acw,if_neg acw];congr 1;omega
theorem Ib (m:Nat) (h:m<=1000000000000000):Lib.parseMag (Lib.decDigits m)=.ok m:=by
 unfold Lib.parseMag;rw[if_neg (Fr m)];have:=Jq m h [];rw[vr]at this;rw[this];rfl
theorem Io (n:Int) (h0:-1000000000000000<=n) (h1:n<=1000000000000000):Lib.atoiAll (Lib.itoa n)=.ok n:=by
 unfold Lib.itoa;split
 ·rename_i h;simp only[Lib.atoiAll];rw[if_pos acy,Ib _ acw];simp only;rw[if_neg (fun h=>h.1 acy),if_neg (fun h=>acw),if_pos acy];congr 1;omega
 ·rename_i h;have hm:Lib.parseMag (Lib.decDigits n.toNat)=.ok n.toNat:=Ib _ acw
  cases hd:Lib.decDigits n.toNat with
  | nil=>exact absurd hd (Fr _)
  | cons c r=>
   have hc:=Er n.toNat c (by rw[hd];simp);rw[hd]at hm;simp only[Lib.atoiAll];rw[if_neg acw,hm];simp only;rw[if_neg (fun h=>acw),if_neg (fun h=>acw),if_neg acw];congr 1;omega
theorem Mv (n:Int):∃c r,Lib.itoa n=c::r/\(c.toNat=45\/48<=c.toNat/\c.toNat<=57):=by
 unfold Lib.itoa;split
 ·exact⟨45,_,rfl,.inl rfl⟩
 ·cases hd:Lib.decDigits n.toNat with
  | nil=>exact absurd hd (Fr _)
  | cons c r=>exact⟨c,r,rfl,.inr (Er n.toNat c (by rw[hd];simp))⟩
theorem jt:Lib.formatBool true=bTrue:=acy
theorem dj:Lib.formatBool false=bFalse:=acy
theorem Tz:((List.range 16).all fun d=>decide (hexVal (hexD d)=some d)&&decide (Lib.lowerB (hexD d)=hexD d)&&decide (32<=(hexD d).toNat/\(hexD d).toNat<=126))=true:=ac0
theorem Ii (d:Nat) (h:d<16):hexVal (hexD d)=some d/\Lib.lowerB (hexD d)=hexD d/\32<=(hexD d).toNat/\(hexD d).toNat<=126:=by
 have:=vg.1 Tz d (by simpa using h);simp only[tr,uk]at this;exact⟨this.1.1,this.1.2,this.2⟩
theorem jr (x y:Nat) (hx:x<16) (hy:y<16):hexs 0 [hexD x,hexD y]=some (x * 16+y):=by
 simp[hexs,(Ii x hx).1,(Ii y hy).1]
theorem Lh {c:UInt8} (h:plainB (c.toNat:Int)=true):escB c=[c]:=by rw[escB,if_pos h]
theorem Qu {c:UInt8} (h:plainB (c.toNat:Int)=false):escB c=[92,hexD (c.toNat/16),hexD (c.toNat % 16)]:=by rw[escB,if_neg (by simp[h])]
theorem jb {c:UInt8} (h:plainB (c.toNat:Int)=true):c≠92:=by
 intro e;rw[e]at h;revert h;decide
theorem unq_esc_all:∀l:List UInt8,unq (l.flatMap escB)=some l
 | []=>rfl
 | c::l=>by
  rw[v8]
  cases hp:plainB (c.toNat:Int)
  ·have hc:=c.toNat_lt;rw[Qu hp];simp only[tz,uc];have hn:c.toNat/16 * 16+c.toNat % 16=c.toNat:=acw;rw[U7 (n:=c.toNat) (by rw[jr _ _ acw acw,hn]) hp (by simp[Lib.toLowerA,(Ii (c.toNat/16) acw).2.1,(Ii (c.toNat % 16) acw).2.1]),unq_esc_all l];simp
  ·rw[Lh hp];simp only[tz,uc];rw[L4 (jb hp) hp,unq_esc_all l];rfl
theorem Wv (m:List UInt8):quo (39::(m++[39]))=unq m:=by
 have e:(39::(m++[39])).length=m.length+2:=acx;unfold quo;rw[if_neg ?_]
 ·simp
 ·rw[e];simp only[abp,ne_eq,aag,false_or,not_or,Decidable.not_not];refine⟨by omega,?_⟩;rw[zb,show m.length+2 - 1=m.length+1 by omega,xq,aa2 acw];simp
theorem Pj (v:V) (h:v.right=true):parseP v.print=some v:=by
 obtain⟨k,n,s⟩:=v;rcases Cm h with h1|h1|h1|h1
 ·obtain⟨e1,e2,e3⟩:=h1;simp only at e1 e2 e3;subst e1 e2 e3;rfl
 ·obtain⟨e1,e2,e3,e4⟩:=h1;simp only at e1 e2 e3 e4;subst e1 e2;have hp:V.print ⟨1,n,⟨#[]⟩⟩=Lib.itoa n:=rfl;rw[hp];obtain⟨c,r,hi,hc⟩:=Mv n;have hne:∀d l,d.toNat≠45->¬(48<=d.toNat/\d.toNat<=57)->Lib.itoa n≠d::l:=fun d l h1 h2 e=>by
   rw[hi]at e;have:=(acq e).1;subst this;omega
  have hq:quo (Lib.itoa n)=none:=by
   unfold quo;rw[if_pos];right;left;rw[hi];simp only[abp];intro e;subst e;revert hc;decide
  unfold parseP bNull bTrue bFalse;rw[if_neg (hne 110 _ acy acy),if_neg (hne 116 _ acy acy),if_neg (hne 102 _ acy acy),hq,Io n acw acw];simp only[if_true,ifRight];rw[show V.num n=⟨1,n,⟨#[]⟩⟩from rfl,h];rfl
 ·obtain⟨e1,e2,e3⟩:=h1;simp only at e1 e2 e3;subst e1 e2;have hp:V.print ⟨2,0,s⟩=39::(s.data.toList.flatMap escB++[39]):=rfl;rw[hp];have hne:∀d l,d≠39->(39::(s.data.toList.flatMap escB++[39]):List UInt8)≠d::l:=fun d l h e=>h (acq e).1.symm;unfold parseP bNull bTrue bFalse;rw[if_neg (hne 110 _ acy),if_neg (hne 116 _ acy),if_neg (hne 102 _ acy),Wv,unq_esc_all];simp only[ifRight,Hr];rw[h];rfl
 ·obtain⟨e1,e2,e3⟩:=h1;simp only at e1 e2 e3;subst e1 e3;rcases e2 with rfl|rfl
  ·show parseP (Lib.formatBool false)=_;rw[dj];rfl
  ·show parseP (Lib.formatBool true)=_;rw[jt];rfl
end Go.Proofs.YtimoefagohifaaaGreatDoor
