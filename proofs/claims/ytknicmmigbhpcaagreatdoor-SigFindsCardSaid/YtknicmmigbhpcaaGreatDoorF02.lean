/- Walks and plain laws: Shelf, LexW1, LexW2. -/
import Derived.Shelf.Spec.SearchS
import Derived.Shelf.Strings.Builder1
import Derived.Shelf.Strings.Builder2
import Derived.Shelf.Strings.OnBuilder
import Derived.Shelf.Strings.Trim
import Derived.Shelf.Small.Utf8
import Derived.Shelf.Small.Bits
import Derived.Shelf.Small.Strs
import Derived.Shelf.Small.Wraps
import Derived.Shelf.Strings.BuilderF
import Derived.Shelf.Strings.BuilderK
import Derived.Shelf.Strconv.Itoa0
import Derived.Shelf.Strconv.Itoa1
import Derived.Shelf.LaysM
import Derived.Shelf.Strconv.Itoa2
import Derived.Shelf.Strconv.Itoa3
import Derived.Shelf.Strings.Search1
import Derived.Shelf.Strings.Search2
import Derived.Shelf.Strings.Search3
import Derived.Shelf.Strings.Shaped
import Derived.Shelf.Sort.Plain
import Derived.Shelf.Strings.Prefix
import Derived.Shelf.Strings.Runes
import Derived.Shelf.Strings.AsciiSet
import Derived.Shelf.Unicode.DecodeSlow
import Derived.Shelf.Slices.Turned
import Derived.Ground.Names2Prog
import Derived.Shelf.Slices.Clone
import Derived.Shelf.Slices.CompactS
import Derived.Shelf.Slices.Cells
import Derived.Shelf.Slices.In.SortNone
import Derived.Test.YtknicmmigbhpcaaGreatDoorProg
import Derived.Test.YtknicmmigbhpcaaGreatDoorF01
import Derived.Shelf.Strings.SlTrimAscii
import Derived.Lib.SlTrimSet
set_option maxHeartbeats 16000000
set_option maxRecDepth 100000
set_option linter.unusedVariables false
set_option linter.unusedSimpArgs false
namespace Go.Proofs
open Go.Shelf
def Tryz.zJ:Go.Shelf.Ren:=⟨fun|169=>77|n=>n,fun|70=>150|9=>9|0=>0|72=>153|37=>151|127=>219|3=>3|5=>5|n=>n,fun|n=>n⟩
theorem Tryz.XW:Go.Proofs.Lays.n169 Tryz.prog Tryz.zJ:={
 mixed:=by kernel_rfl
 f169:=Tryz.func77.trans (congrArg some (by kernel_rfl))
 t0:=Tryz.underlying0
 a0:=Tryz.isAgg0
 z0:=Tryz.sizeOf0
 v0:=Tryz.zeroValue0
 t3:=Tryz.underlying3
 a3:=Tryz.isAgg3
 z3:=Tryz.sizeOf3
 v3:=Tryz.zeroValue3
 t9:=Tryz.underlying9
 a9:=Tryz.isAgg9
 z9:=Tryz.sizeOf9
 v9:=Tryz.zeroValue9
 t37:=Tryz.underlying151
 a37:=Tryz.isAgg151
 z37:=Tryz.sizeOf151
 v37:=Tryz.zeroValue151
 t70:=Tryz.underlying150
 a70:=Tryz.isAgg150
 z70:=Tryz.sizeOf150
 v70:=Tryz.zeroValue150
 t72:=Tryz.underlying153
 a72:=Tryz.isAgg153
 z72:=Tryz.sizeOf153
 v72:=Tryz.zeroValue153
 t127:=Tryz.underlying219
 a127:=Tryz.isAgg219
 z127:=Tryz.sizeOf219
 v127:=Tryz.zeroValue219 }
theorem Tryz.wH:Builder.Extra Tryz.prog Tryz.zJ:={
 sizeBuilder:=by kernel_rfl
 liesBuilder:=by kernel_rfl
 t5:=Tryz.underlying5
 a5:=Tryz.isAgg5
 z5:=Tryz.sizeOf5
 v5:=Tryz.zeroValue5
 infoByte:=by kernel_rfl
 cellsByte:=by kernel_rfl
 sizeByte:=by kernel_rfl
 neB5:=by decide }
def Tryz.zK:Go.Shelf.Ren:=⟨fun|156=>50|165=>78|166=>79|169=>77|240=>130|241=>131|276=>210|277=>211|n=>n,fun|31=>22|9=>9|3=>3|4=>4|0=>0|20=>20|72=>153|76=>160|70=>150|37=>151|75=>159|127=>219|164=>277|5=>5|80=>140|n=>n,fun|n=>n⟩
theorem Tryz.OQ:Go.Proofs.Lays.n156 Tryz.prog Tryz.zK:={
 mixed:=by kernel_rfl
 f156:=Tryz.func50.trans (congrArg some (by kernel_rfl))
 f165:=Tryz.func78.trans (congrArg some (by kernel_rfl))
 f166:=Tryz.func79.trans (congrArg some (by kernel_rfl))
 f169:=Tryz.func77.trans (congrArg some (by kernel_rfl))
 f240:=Tryz.func130.trans (congrArg some (by kernel_rfl))
 f241:=Tryz.func131.trans (congrArg some (by kernel_rfl))
 f276:=Tryz.func210.trans (congrArg some (by kernel_rfl))
 f277:=Tryz.func211.trans (congrArg some (by kernel_rfl))
 t0:=Tryz.underlying0
 a0:=Tryz.isAgg0
 z0:=Tryz.sizeOf0
 v0:=Tryz.zeroValue0
 t3:=Tryz.underlying3
 a3:=Tryz.isAgg3
 z3:=Tryz.sizeOf3
 v3:=Tryz.zeroValue3
 t4:=Tryz.underlying4
 a4:=Tryz.isAgg4
 z4:=Tryz.sizeOf4
 v4:=Tryz.zeroValue4
 t9:=Tryz.underlying9
 a9:=Tryz.isAgg9
 z9:=Tryz.sizeOf9
 v9:=Tryz.zeroValue9
 t20:=Tryz.underlying20
 a20:=Tryz.isAgg20
 z20:=Tryz.sizeOf20
 v20:=Tryz.zeroValue20
 t31:=Tryz.underlying22
 a31:=Tryz.isAgg22
 z31:=Tryz.sizeOf22
 v31:=Tryz.zeroValue22
 t37:=Tryz.underlying151
 a37:=Tryz.isAgg151
 z37:=Tryz.sizeOf151
 v37:=Tryz.zeroValue151
 t70:=Tryz.underlying150
 a70:=Tryz.isAgg150
 z70:=Tryz.sizeOf150
 v70:=Tryz.zeroValue150
 t72:=Tryz.underlying153
 a72:=Tryz.isAgg153
 z72:=Tryz.sizeOf153
 v72:=Tryz.zeroValue153
 t75:=Tryz.underlying159
 a75:=Tryz.isAgg159
 z75:=Tryz.sizeOf159
 v75:=Tryz.zeroValue159
 t76:=Tryz.underlying160
 a76:=Tryz.isAgg160
 z76:=Tryz.sizeOf160
 v76:=Tryz.zeroValue160
 t127:=Tryz.underlying219
 a127:=Tryz.isAgg219
 z127:=Tryz.sizeOf219
 v127:=Tryz.zeroValue219
 t164:=Tryz.underlying277
 a164:=Tryz.isAgg277
 z164:=Tryz.sizeOf277
 v164:=Tryz.zeroValue277 }
theorem Tryz.oN:Builder.Extra Tryz.prog Tryz.zK:={
 sizeBuilder:=by kernel_rfl
 liesBuilder:=by kernel_rfl
 t5:=Tryz.underlying5
 a5:=Tryz.isAgg5
 z5:=Tryz.sizeOf5
 v5:=Tryz.zeroValue5
 infoByte:=by kernel_rfl
 cellsByte:=by kernel_rfl
 sizeByte:=by kernel_rfl
 neB5:=by decide }
open Go.RowKit in
theorem Tryz.strings_Join_none (a:Option Addr)(c:Nat)(sep:ByteArray)(w:World) :
  Calls Tryz.prog 50 #[.slice a 0 c,.string sep] w fun e w'=>e=.returned (.string ⟨#[]⟩)∧w'=w:=Any.strings_Join_none Tryz.OQ Tryz.oN a c sep w
open Go.RowKit in
theorem Tryz.strings_Join (bk o c:Nat)(xs:List ByteArray)(sep:ByteArray)(w:World)(hcells:∀ (j:Nat) x,xs[j]?=some x→w.cell? ⟨bk,o+j,none⟩=some (.string x))(hbk:bk<w.heap.size)(hN:xs.length≤140737488355328)(hcap:xs.length≤c)(hlen:(Lib.join (xs.map (·.data.toList)) sep.data.toList).length≤140737488355328) :
  Calls Tryz.prog 50 #[.slice (some ⟨bk,o,none⟩) xs.length c,.string sep] w fun e w'=>e=.returned (.string ⟨(Lib.join (xs.map (·.data.toList)) sep.data.toList).toArray⟩)∧Below w.heap.size w w':=Any.strings_Join Tryz.OQ Tryz.oN bk o c xs sep w hcells hbk hN hcap hlen
def Tryz.IZ:Go.Shelf.Ren:=⟨fun|161=>193|231=>249|227=>185|233=>250|235=>251|228=>246|197=>285|151=>248|260=>304|152=>286|137=>305|119=>306|224=>289|225=>288|217=>287|266=>307|n=>n,fun|9=>9|4=>4|3=>3|5=>5|117=>264|116=>263|0=>0|124=>267|105=>303|21=>21|119=>357|46=>235|139=>360|138=>359|n=>n,fun|3=>1|4=>2|n=>n⟩
theorem Tryz.XY:Go.Proofs.Lays.n161 Tryz.prog Tryz.IZ:={
 mixed:=by kernel_rfl
 f119:=Tryz.func306.trans (congrArg some (by kernel_rfl))
 f137:=Tryz.func305.trans (congrArg some (by kernel_rfl))
 f151:=Tryz.func248.trans (congrArg some (by kernel_rfl))
 f152:=Tryz.func286.trans (congrArg some (by kernel_rfl))
 f161:=Tryz.func193.trans (congrArg some (by kernel_rfl))
 f197:=Tryz.func285.trans (congrArg some (by kernel_rfl))
 f217:=Tryz.func287.trans (congrArg some (by kernel_rfl))
 f224:=Tryz.func289.trans (congrArg some (by kernel_rfl))
 f225:=Tryz.func288.trans (congrArg some (by kernel_rfl))
 f227:=Tryz.func185.trans (congrArg some (by kernel_rfl))
 f228:=Tryz.func246.trans (congrArg some (by kernel_rfl))
 f231:=Tryz.func249.trans (congrArg some (by kernel_rfl))
 f233:=Tryz.func250.trans (congrArg some (by kernel_rfl))
 f235:=Tryz.func251.trans (congrArg some (by kernel_rfl))
 f260:=Tryz.func304.trans (congrArg some (by kernel_rfl))
 f266:=Tryz.func307.trans (congrArg some (by kernel_rfl))
 t0:=Tryz.underlying0
 a0:=Tryz.isAgg0
 z0:=Tryz.sizeOf0
 v0:=Tryz.zeroValue0
 t3:=Tryz.underlying3
 a3:=Tryz.isAgg3
 z3:=Tryz.sizeOf3
 v3:=Tryz.zeroValue3
 t4:=Tryz.underlying4
 a4:=Tryz.isAgg4
 z4:=Tryz.sizeOf4
 v4:=Tryz.zeroValue4
 t5:=Tryz.underlying5
 a5:=Tryz.isAgg5
 z5:=Tryz.sizeOf5
 v5:=Tryz.zeroValue5
 t9:=Tryz.underlying9
 a9:=Tryz.isAgg9
 z9:=Tryz.sizeOf9
 v9:=Tryz.zeroValue9
 t21:=Tryz.underlying21
 a21:=Tryz.isAgg21
 z21:=Tryz.sizeOf21
 v21:=Tryz.zeroValue21
 t46:=Tryz.underlying235
 a46:=Tryz.isAgg235
 z46:=Tryz.sizeOf235
 v46:=Tryz.zeroValue235
 t105:=Tryz.underlying303
 a105:=Tryz.isAgg303
 z105:=Tryz.sizeOf303
 v105:=Tryz.zeroValue303
 t116:=Tryz.underlying263
 a116:=Tryz.isAgg263
 z116:=Tryz.sizeOf263
 t117:=Tryz.underlying264
 a117:=Tryz.isAgg264
 z117:=Tryz.sizeOf264
 v117:=Tryz.zeroValue264
 t119:=Tryz.underlying357
 a119:=Tryz.isAgg357
 z119:=Tryz.sizeOf357
 t124:=Tryz.underlying267
 a124:=Tryz.isAgg267
 z124:=Tryz.sizeOf267
 v124:=Tryz.zeroValue267
 t138:=Tryz.underlying359
 a138:=Tryz.isAgg359
 z138:=Tryz.sizeOf359
 v138:=Tryz.zeroValue359
 t139:=Tryz.underlying360
 a139:=Tryz.isAgg360
 z139:=Tryz.sizeOf360
 v139:=Tryz.zeroValue360
 g3:=by kernel_rfl
 g4:=by kernel_rfl }
def Tryz.I4:Go.Shelf.Ren:=⟨fun|162=>118|232=>184|227=>185|234=>186|236=>187|228=>246|271=>247|151=>248|120=>284|197=>285|152=>286|260=>304|137=>305|119=>306|224=>289|225=>288|217=>287|266=>307|n=>n,fun|9=>9|4=>4|3=>3|5=>5|117=>264|116=>263|0=>0|124=>267|21=>21|105=>303|46=>235|119=>357|139=>360|138=>359|n=>n,fun|3=>1|4=>2|n=>n⟩
theorem Tryz.XZ:Go.Proofs.Lays.n162 Tryz.prog Tryz.I4:={
 mixed:=by kernel_rfl
 f119:=Tryz.func306.trans (congrArg some (by kernel_rfl))
 f120:=Tryz.func284.trans (congrArg some (by kernel_rfl))
 f137:=Tryz.func305.trans (congrArg some (by kernel_rfl))
 f151:=Tryz.func248.trans (congrArg some (by kernel_rfl))
 f152:=Tryz.func286.trans (congrArg some (by kernel_rfl))
 f162:=Tryz.func118.trans (congrArg some (by kernel_rfl))
 f197:=Tryz.func285.trans (congrArg some (by kernel_rfl))
 f217:=Tryz.func287.trans (congrArg some (by kernel_rfl))
 f224:=Tryz.func289.trans (congrArg some (by kernel_rfl))
 f225:=Tryz.func288.trans (congrArg some (by kernel_rfl))
 f227:=Tryz.func185.trans (congrArg some (by kernel_rfl))
 f228:=Tryz.func246.trans (congrArg some (by kernel_rfl))
 f232:=Tryz.func184.trans (congrArg some (by kernel_rfl))
 f234:=Tryz.func186.trans (congrArg some (by kernel_rfl))
 f236:=Tryz.func187.trans (congrArg some (by kernel_rfl))
 f260:=Tryz.func304.trans (congrArg some (by kernel_rfl))
 f266:=Tryz.func307.trans (congrArg some (by kernel_rfl))
 f271:=Tryz.func247.trans (congrArg some (by kernel_rfl))
 t0:=Tryz.underlying0
 a0:=Tryz.isAgg0
 z0:=Tryz.sizeOf0
 v0:=Tryz.zeroValue0
 t3:=Tryz.underlying3
 a3:=Tryz.isAgg3
 z3:=Tryz.sizeOf3
 v3:=Tryz.zeroValue3
 t4:=Tryz.underlying4
 a4:=Tryz.isAgg4
 z4:=Tryz.sizeOf4
 v4:=Tryz.zeroValue4
 t5:=Tryz.underlying5
 a5:=Tryz.isAgg5
 z5:=Tryz.sizeOf5
 v5:=Tryz.zeroValue5
 t9:=Tryz.underlying9
 a9:=Tryz.isAgg9
 z9:=Tryz.sizeOf9
 v9:=Tryz.zeroValue9
 t21:=Tryz.underlying21
 a21:=Tryz.isAgg21
 z21:=Tryz.sizeOf21
 v21:=Tryz.zeroValue21
 t46:=Tryz.underlying235
 a46:=Tryz.isAgg235
 z46:=Tryz.sizeOf235
 v46:=Tryz.zeroValue235
 t105:=Tryz.underlying303
 a105:=Tryz.isAgg303
 z105:=Tryz.sizeOf303
 v105:=Tryz.zeroValue303
 t116:=Tryz.underlying263
 a116:=Tryz.isAgg263
 z116:=Tryz.sizeOf263
 t117:=Tryz.underlying264
 a117:=Tryz.isAgg264
 z117:=Tryz.sizeOf264
 v117:=Tryz.zeroValue264
 t119:=Tryz.underlying357
 a119:=Tryz.isAgg357
 z119:=Tryz.sizeOf357
 t124:=Tryz.underlying267
 a124:=Tryz.isAgg267
 z124:=Tryz.sizeOf267
 v124:=Tryz.zeroValue267
 t138:=Tryz.underlying359
 a138:=Tryz.isAgg359
 z138:=Tryz.sizeOf359
 v138:=Tryz.zeroValue359
 t139:=Tryz.underlying360
 a139:=Tryz.isAgg360
 z139:=Tryz.sizeOf360
 v139:=Tryz.zeroValue360
 g3:=by kernel_rfl
 g4:=by kernel_rfl }
open Go.RowKit in
theorem Tryz.strings_TrimRight_one (s:ByteArray)(c:UInt8)(hc:c.toNat<128)(w:World)(hs:s.size≤9223372036854775807) :
  Calls Tryz.prog 118 #[.string s,.string ⟨#[c]⟩] w fun e w'=>e=.returned (.string ⟨(Lib.trimRightB s.data.toList c).toArray⟩)∧w'=w:=Any.strings_TrimRight_one Tryz.XZ s c hc w hs
def Tryz.I5:Go.Shelf.Ren:=⟨fun|160=>242|232=>184|231=>249|227=>185|234=>186|233=>250|236=>187|235=>251|228=>246|271=>247|151=>248|197=>285|120=>284|152=>286|260=>304|137=>305|119=>306|224=>289|225=>288|217=>287|266=>307|n=>n,fun|9=>9|4=>4|3=>3|5=>5|117=>264|116=>263|0=>0|124=>267|21=>21|105=>303|46=>235|119=>357|139=>360|138=>359|n=>n,fun|3=>1|4=>2|n=>n⟩
theorem Tryz.X3:Go.Proofs.Lays.n160 Tryz.prog Tryz.I5:={
 mixed:=by kernel_rfl
 f119:=Tryz.func306.trans (congrArg some (by kernel_rfl))
 f120:=Tryz.func284.trans (congrArg some (by kernel_rfl))
 f137:=Tryz.func305.trans (congrArg some (by kernel_rfl))
 f151:=Tryz.func248.trans (congrArg some (by kernel_rfl))
 f152:=Tryz.func286.trans (congrArg some (by kernel_rfl))
 f160:=Tryz.func242.trans (congrArg some (by kernel_rfl))
 f197:=Tryz.func285.trans (congrArg some (by kernel_rfl))
 f217:=Tryz.func287.trans (congrArg some (by kernel_rfl))
 f224:=Tryz.func289.trans (congrArg some (by kernel_rfl))
 f225:=Tryz.func288.trans (congrArg some (by kernel_rfl))
 f227:=Tryz.func185.trans (congrArg some (by kernel_rfl))
 f228:=Tryz.func246.trans (congrArg some (by kernel_rfl))
 f231:=Tryz.func249.trans (congrArg some (by kernel_rfl))
 f232:=Tryz.func184.trans (congrArg some (by kernel_rfl))
 f233:=Tryz.func250.trans (congrArg some (by kernel_rfl))
 f234:=Tryz.func186.trans (congrArg some (by kernel_rfl))
 f235:=Tryz.func251.trans (congrArg some (by kernel_rfl))
 f236:=Tryz.func187.trans (congrArg some (by kernel_rfl))
 f260:=Tryz.func304.trans (congrArg some (by kernel_rfl))
 f266:=Tryz.func307.trans (congrArg some (by kernel_rfl))
 f271:=Tryz.func247.trans (congrArg some (by kernel_rfl))
 t0:=Tryz.underlying0
 a0:=Tryz.isAgg0
 z0:=Tryz.sizeOf0
 v0:=Tryz.zeroValue0
 t3:=Tryz.underlying3
 a3:=Tryz.isAgg3
 z3:=Tryz.sizeOf3
 v3:=Tryz.zeroValue3
 t4:=Tryz.underlying4
 a4:=Tryz.isAgg4
 z4:=Tryz.sizeOf4
 v4:=Tryz.zeroValue4
 t5:=Tryz.underlying5
 a5:=Tryz.isAgg5
 z5:=Tryz.sizeOf5
 v5:=Tryz.zeroValue5
 t9:=Tryz.underlying9
 a9:=Tryz.isAgg9
 z9:=Tryz.sizeOf9
 v9:=Tryz.zeroValue9
 t21:=Tryz.underlying21
 a21:=Tryz.isAgg21
 z21:=Tryz.sizeOf21
 v21:=Tryz.zeroValue21
 t46:=Tryz.underlying235
 a46:=Tryz.isAgg235
 z46:=Tryz.sizeOf235
 v46:=Tryz.zeroValue235
 t105:=Tryz.underlying303
 a105:=Tryz.isAgg303
 z105:=Tryz.sizeOf303
 v105:=Tryz.zeroValue303
 t116:=Tryz.underlying263
 a116:=Tryz.isAgg263
 z116:=Tryz.sizeOf263
 t117:=Tryz.underlying264
 a117:=Tryz.isAgg264
 z117:=Tryz.sizeOf264
 v117:=Tryz.zeroValue264
 t119:=Tryz.underlying357
 a119:=Tryz.isAgg357
 z119:=Tryz.sizeOf357
 t124:=Tryz.underlying267
 a124:=Tryz.isAgg267
 z124:=Tryz.sizeOf267
 v124:=Tryz.zeroValue267
 t138:=Tryz.underlying359
 a138:=Tryz.isAgg359
 z138:=Tryz.sizeOf359
 v138:=Tryz.zeroValue359
 t139:=Tryz.underlying360
 a139:=Tryz.isAgg360
 z139:=Tryz.sizeOf360
 v139:=Tryz.zeroValue360
 g3:=by kernel_rfl
 g4:=by kernel_rfl }
def Tryz.I6:Go.Shelf.Ren:=⟨fun|103=>241|210=>283|206=>252|n=>n,fun|9=>9|4=>4|24=>299|3=>3|n=>n,fun|n=>n⟩
theorem Tryz.X4:Go.Proofs.Lays.n103 Tryz.prog Tryz.I6:={
 mixed:=by kernel_rfl
 f103:=Tryz.func241.trans (congrArg some (by kernel_rfl))
 f206:=Tryz.func252.trans (congrArg some (by kernel_rfl))
 f210:=Tryz.func283.trans (congrArg some (by kernel_rfl))
 t3:=Tryz.underlying3
 a3:=Tryz.isAgg3
 z3:=Tryz.sizeOf3
 v3:=Tryz.zeroValue3
 t4:=Tryz.underlying4
 a4:=Tryz.isAgg4
 z4:=Tryz.sizeOf4
 v4:=Tryz.zeroValue4
 t9:=Tryz.underlying9
 a9:=Tryz.isAgg9
 z9:=Tryz.sizeOf9
 v9:=Tryz.zeroValue9
 t24:=Tryz.underlying299
 a24:=Tryz.isAgg299
 z24:=Tryz.sizeOf299
 v24:=Tryz.zeroValue299 }
open Go.RowKit in
theorem Tryz.strings_CutPrefix (s p:ByteArray)(w:World) :
  Calls Tryz.prog 241 #[.string s,.string p] w fun e w'=>e=.returned (.tuple #[.string ⟨(Lib.trimPrefix s.data.toList p.data.toList).toArray⟩,.bool (Lib.hasPrefix s.data.toList p.data.toList)])∧w'=w:=Any.strings_CutPrefix Tryz.X4 s p w
open Go.RowKit in
theorem Tryz.Builder_String_any_k (B b:Nat)(l:List UInt8)(w:World)(h:Lib.IsBuilderF 153 5 B b (Lib.byteCells l) w)(hBw:B≤w.heap.size) :
  Calls Tryz.prog 77 #[.pointer (some ⟨b,0,none⟩)] w fun e w'=>e=.returned (.string ⟨l.toArray⟩)∧(Lib.IsBuilderF 153 5 B b (Lib.byteCells l) w'∧Below B w w'∧Lib.OthersKept 5 (some b) w w'):=Any.Builder_String_any_k Tryz.XW Tryz.wH B b l w h hBw
def Tryz.I7:Go.Shelf.Ren:=⟨fun|171=>238|243=>282|246=>303|283=>313|284=>314|285=>315|286=>316|129=>274|317=>319|318=>320|319=>321|320=>322|337=>324|338=>325|n=>n,fun|3=>3|9=>9|2=>2|4=>4|171=>353|0=>0|53=>201|37=>151|5=>5|173=>355|212=>363|51=>259|20=>20|213=>364|46=>235|232=>365|233=>366|n=>n,fun|17=>3|18=>4|19=>5|n=>n⟩
theorem Tryz.X5:Go.Proofs.Lays.n171 Tryz.prog Tryz.I7:={
 mixed:=by kernel_rfl
 f129:=Tryz.func274.trans (congrArg some (by kernel_rfl))
 f171:=Tryz.func238.trans (congrArg some (by kernel_rfl))
 f243:=Tryz.func282.trans (congrArg some (by kernel_rfl))
 f246:=Tryz.func303.trans (congrArg some (by kernel_rfl))
 f283:=Tryz.func313.trans (congrArg some (by kernel_rfl))
 f284:=Tryz.func314.trans (congrArg some (by kernel_rfl))
 f285:=Tryz.func315.trans (congrArg some (by kernel_rfl))
 f286:=Tryz.func316.trans (congrArg some (by kernel_rfl))
 f317:=Tryz.func319.trans (congrArg some (by kernel_rfl))
 f318:=Tryz.func320.trans (congrArg some (by kernel_rfl))
 f319:=Tryz.func321.trans (congrArg some (by kernel_rfl))
 f320:=Tryz.func322.trans (congrArg some (by kernel_rfl))
 f337:=Tryz.func324.trans (congrArg some (by kernel_rfl))
 f338:=Tryz.func325.trans (congrArg some (by kernel_rfl))
 t0:=Tryz.underlying0
 a0:=Tryz.isAgg0
 z0:=Tryz.sizeOf0
 v0:=Tryz.zeroValue0
 t2:=Tryz.underlying2
 a2:=Tryz.isAgg2
 z2:=Tryz.sizeOf2
 v2:=Tryz.zeroValue2
 t3:=Tryz.underlying3
 a3:=Tryz.isAgg3
 z3:=Tryz.sizeOf3
 v3:=Tryz.zeroValue3
 t4:=Tryz.underlying4
 a4:=Tryz.isAgg4
 z4:=Tryz.sizeOf4
 v4:=Tryz.zeroValue4
 t5:=Tryz.underlying5
 a5:=Tryz.isAgg5
 z5:=Tryz.sizeOf5
 v5:=Tryz.zeroValue5
 t9:=Tryz.underlying9
 a9:=Tryz.isAgg9
 z9:=Tryz.sizeOf9
 v9:=Tryz.zeroValue9
 t20:=Tryz.underlying20
 a20:=Tryz.isAgg20
 z20:=Tryz.sizeOf20
 v20:=Tryz.zeroValue20
 t37:=Tryz.underlying151
 a37:=Tryz.isAgg151
 z37:=Tryz.sizeOf151
 v37:=Tryz.zeroValue151
 t46:=Tryz.underlying235
 a46:=Tryz.isAgg235
 z46:=Tryz.sizeOf235
 v46:=Tryz.zeroValue235
 t51:=Tryz.underlying259
 a51:=Tryz.isAgg259
 z51:=Tryz.sizeOf259
 v51:=Tryz.zeroValue259
 t53:=Tryz.underlying201
 a53:=Tryz.isAgg201
 z53:=Tryz.sizeOf201
 v53:=Tryz.zeroValue201
 t171:=Tryz.underlying353
 a171:=Tryz.isAgg353
 z171:=Tryz.sizeOf353
 v171:=Tryz.zeroValue353
 t173:=Tryz.underlying355
 a173:=Tryz.isAgg355
 z173:=Tryz.sizeOf355
 v173:=Tryz.zeroValue355
 t212:=Tryz.underlying363
 a212:=Tryz.isAgg363
 z212:=Tryz.sizeOf363
 v212:=Tryz.zeroValue363
 t213:=Tryz.underlying364
 a213:=Tryz.isAgg364
 z213:=Tryz.sizeOf364
 t232:=Tryz.underlying365
 a232:=Tryz.isAgg365
 z232:=Tryz.sizeOf365
 v232:=Tryz.zeroValue365
 t233:=Tryz.underlying366
 a233:=Tryz.isAgg366
 z233:=Tryz.sizeOf366
 v233:=Tryz.zeroValue366
 g17:=by kernel_rfl
 g18:=by kernel_rfl
 g19:=by kernel_rfl }
open Go.RowKit Go.Sort Go.Lib in
theorem Tryz.strconv_Itoa_small (i:Nat)(hi:i<100)(w:World) :
  Calls Tryz.prog 238 #[.int .i64 i] w fun e w'=>e=.returned (.string ⟨(Lib.decDigits i).toArray⟩)∧w'=w:=Any.strconv_Itoa_small Tryz.X5 i hi w
def Tryz.I8:Go.Shelf.Ren:=⟨fun|143=>195|219=>253|217=>287|225=>288|224=>289|267=>290|266=>307|314=>308|n=>n,fun|9=>9|3=>3|4=>4|5=>5|46=>235|146=>348|51=>259|n=>n,fun|1=>0|n=>n⟩
theorem Tryz.X6:Go.Proofs.Lays.n143 Tryz.prog Tryz.I8:={
 mixed:=by kernel_rfl
 f143:=Tryz.func195.trans (congrArg some (by kernel_rfl))
 f217:=Tryz.func287.trans (congrArg some (by kernel_rfl))
 f219:=Tryz.func253.trans (congrArg some (by kernel_rfl))
 f224:=Tryz.func289.trans (congrArg some (by kernel_rfl))
 f225:=Tryz.func288.trans (congrArg some (by kernel_rfl))
 f266:=Tryz.func307.trans (congrArg some (by kernel_rfl))
 f267:=Tryz.func290.trans (congrArg some (by kernel_rfl))
 f314:=Tryz.func308.trans (congrArg some (by kernel_rfl))
 t3:=Tryz.underlying3
 a3:=Tryz.isAgg3
 z3:=Tryz.sizeOf3
 v3:=Tryz.zeroValue3
 t4:=Tryz.underlying4
 a4:=Tryz.isAgg4
 z4:=Tryz.sizeOf4
 v4:=Tryz.zeroValue4
 t5:=Tryz.underlying5
 a5:=Tryz.isAgg5
 z5:=Tryz.sizeOf5
 v5:=Tryz.zeroValue5
 t9:=Tryz.underlying9
 a9:=Tryz.isAgg9
 z9:=Tryz.sizeOf9
 v9:=Tryz.zeroValue9
 t46:=Tryz.underlying235
 a46:=Tryz.isAgg235
 z46:=Tryz.sizeOf235
 v46:=Tryz.zeroValue235
 t51:=Tryz.underlying259
 a51:=Tryz.isAgg259
 z51:=Tryz.sizeOf259
 v51:=Tryz.zeroValue259
 t146:=Tryz.underlying348
 a146:=Tryz.isAgg348
 z146:=Tryz.sizeOf348
 v146:=Tryz.zeroValue348
 g1:=by kernel_rfl }
open Go.RowKit Go.Lib in
theorem Tryz.strings_Index_one (s:ByteArray)(c:UInt8)(w:World) :
  Calls Tryz.prog 195 #[.string s,.string ⟨#[c]⟩] w fun e w'=>e=.returned (.int .i64 (Lib.indexByte s.data.toList c))∧w'=w:=Any.strings_Index_one Tryz.X6 s c w
def Tryz.I9:Go.Shelf.Ren:=⟨fun|190=>154|125=>228|258=>227|128=>273|129=>274|302=>265|303=>266|304=>267|305=>268|306=>269|307=>270|308=>151|309=>271|310=>272|333=>293|329=>294|330=>295|334=>296|335=>297|336=>217|344=>309|n=>n,fun|31=>22|9=>9|3=>3|46=>235|0=>0|51=>259|53=>201|4=>4|183=>319|182=>318|131=>167|5=>5|218=>336|222=>340|228=>350|229=>351|n=>n,fun|n=>n⟩
theorem Tryz.OT:Go.Proofs.Lays.n190 Tryz.prog Tryz.I9:={
 mixed:=by kernel_rfl
 f125:=Tryz.func228.trans (congrArg some (by kernel_rfl))
 f128:=Tryz.func273.trans (congrArg some (by kernel_rfl))
 f129:=Tryz.func274.trans (congrArg some (by kernel_rfl))
 f190:=Tryz.func154.trans (congrArg some (by kernel_rfl))
 f258:=Tryz.func227.trans (congrArg some (by kernel_rfl))
 f302:=Tryz.func265.trans (congrArg some (by kernel_rfl))
 f303:=Tryz.func266.trans (congrArg some (by kernel_rfl))
 f304:=Tryz.func267.trans (congrArg some (by kernel_rfl))
 f305:=Tryz.func268.trans (congrArg some (by kernel_rfl))
 f306:=Tryz.func269.trans (congrArg some (by kernel_rfl))
 f307:=Tryz.func270.trans (congrArg some (by kernel_rfl))
 f308:=Tryz.func151.trans (congrArg some (by kernel_rfl))
 f309:=Tryz.func271.trans (congrArg some (by kernel_rfl))
 f310:=Tryz.func272.trans (congrArg some (by kernel_rfl))
 f329:=Tryz.func294.trans (congrArg some (by kernel_rfl))
 f330:=Tryz.func295.trans (congrArg some (by kernel_rfl))
 f333:=Tryz.func293.trans (congrArg some (by kernel_rfl))
 f334:=Tryz.func296.trans (congrArg some (by kernel_rfl))
 f335:=Tryz.func297.trans (congrArg some (by kernel_rfl))
 f336:=Tryz.func217.trans (congrArg some (by kernel_rfl))
 f344:=Tryz.func309.trans (congrArg some (by kernel_rfl))
 t0:=Tryz.underlying0
 a0:=Tryz.isAgg0
 z0:=Tryz.sizeOf0
 v0:=Tryz.zeroValue0
 t3:=Tryz.underlying3
 a3:=Tryz.isAgg3
 z3:=Tryz.sizeOf3
 v3:=Tryz.zeroValue3
 t4:=Tryz.underlying4
 a4:=Tryz.isAgg4
 z4:=Tryz.sizeOf4
 v4:=Tryz.zeroValue4
 t5:=Tryz.underlying5
 a5:=Tryz.isAgg5
 z5:=Tryz.sizeOf5
 v5:=Tryz.zeroValue5
 t9:=Tryz.underlying9
 a9:=Tryz.isAgg9
 z9:=Tryz.sizeOf9
 v9:=Tryz.zeroValue9
 t31:=Tryz.underlying22
 a31:=Tryz.isAgg22
 z31:=Tryz.sizeOf22
 v31:=Tryz.zeroValue22
 t46:=Tryz.underlying235
 a46:=Tryz.isAgg235
 z46:=Tryz.sizeOf235
 v46:=Tryz.zeroValue235
 t51:=Tryz.underlying259
 a51:=Tryz.isAgg259
 z51:=Tryz.sizeOf259
 v51:=Tryz.zeroValue259
 t53:=Tryz.underlying201
 a53:=Tryz.isAgg201
 z53:=Tryz.sizeOf201
 v53:=Tryz.zeroValue201
 t131:=Tryz.underlying167
 a131:=Tryz.isAgg167
 z131:=Tryz.sizeOf167
 v131:=Tryz.zeroValue167
 t182:=Tryz.underlying318
 a182:=Tryz.isAgg318
 z182:=Tryz.sizeOf318
 v182:=Tryz.zeroValue318
 t183:=Tryz.underlying319
 a183:=Tryz.isAgg319
 z183:=Tryz.sizeOf319
 v183:=Tryz.zeroValue319
 t218:=Tryz.underlying336
 a218:=Tryz.isAgg336
 z218:=Tryz.sizeOf336
 v218:=Tryz.zeroValue336
 t222:=Tryz.underlying340
 a222:=Tryz.isAgg340
 z222:=Tryz.sizeOf340
 v222:=Tryz.zeroValue340
 t228:=Tryz.underlying350
 a228:=Tryz.isAgg350
 z228:=Tryz.sizeOf350
 v228:=Tryz.zeroValue350
 t229:=Tryz.underlying351
 a229:=Tryz.isAgg351
 z229:=Tryz.sizeOf351
 v229:=Tryz.zeroValue351 }
open Go.Sort Go.RowKit in
theorem Tryz.slices_Sort_string (blk off cap:Nat)(ss:List (List UInt8))(w:World)(hH:Holds encStr w blk off ss.toArray)(hblk:blk<w.heap.size)(hsz:ss.length<4611686018427387904) :
  Calls Tryz.prog 154 #[.slice (some ⟨blk,off,none⟩) ss.length cap] w fun e w' =>
   e=.returned (.tuple #[])∧∃ n os,w'=grow (putRow encStr (Sort.ahead w n) blk off (ss.mergeSort fun x y=>decide (x≤y)).toArray) os:=Any.slices_Sort_string Tryz.OT blk off cap ss w hH hblk hsz
def Tryz.LY:Go.Shelf.Ren:=⟨fun|99=>194|206=>252|n=>n,fun|9=>9|4=>4|3=>3|n=>n,fun|n=>n⟩
theorem Tryz.aav:Go.Proofs.Lays.n99 Tryz.prog Tryz.LY:={
 mixed:=by kernel_rfl
 f99:=Tryz.func194.trans (congrArg some (by kernel_rfl))
 f206:=Tryz.func252.trans (congrArg some (by kernel_rfl))
 t3:=Tryz.underlying3
 a3:=Tryz.isAgg3
 z3:=Tryz.sizeOf3
 v3:=Tryz.zeroValue3
 t4:=Tryz.underlying4
 a4:=Tryz.isAgg4
 z4:=Tryz.sizeOf4
 v4:=Tryz.zeroValue4
 t9:=Tryz.underlying9
 a9:=Tryz.isAgg9
 z9:=Tryz.sizeOf9
 v9:=Tryz.zeroValue9 }
open Go.RowKit Go.Lib in
theorem Tryz.strings_HasPrefix (s p:ByteArray)(w:World) :
  Calls Tryz.prog 194 #[.string s,.string p] w fun e w'=>e=.returned (.bool (Lib.hasPrefix s.data.toList p.data.toList))∧w'=w:=Any.strings_HasPrefix Tryz.aav s p w
def Tryz.Ja:Go.Shelf.Ren:=⟨fun|110=>231|109=>276|n=>n,fun|31=>22|9=>9|4=>4|3=>3|0=>0|n=>n,fun|n=>n⟩
theorem Tryz.X7:Go.Proofs.Lays.n110 Tryz.prog Tryz.Ja:={
 mixed:=by kernel_rfl
 f109:=Tryz.func276.trans (congrArg some (by kernel_rfl))
 f110:=Tryz.func231.trans (congrArg some (by kernel_rfl))
 t0:=Tryz.underlying0
 a0:=Tryz.isAgg0
 z0:=Tryz.sizeOf0
 v0:=Tryz.zeroValue0
 t3:=Tryz.underlying3
 a3:=Tryz.isAgg3
 z3:=Tryz.sizeOf3
 v3:=Tryz.zeroValue3
 t4:=Tryz.underlying4
 a4:=Tryz.isAgg4
 z4:=Tryz.sizeOf4
 v4:=Tryz.zeroValue4
 t9:=Tryz.underlying9
 a9:=Tryz.isAgg9
 z9:=Tryz.sizeOf9
 v9:=Tryz.zeroValue9
 t31:=Tryz.underlying22
 a31:=Tryz.isAgg22
 z31:=Tryz.sizeOf22
 v31:=Tryz.zeroValue22 }
open Go.Lib in
theorem Tryz.slices_Contains_string (b off n c:Nat)(zs:List ByteArray)(x:ByteArray)(w:World)(hz:n≤zs.length)(hbig:n≤9223372036854775807)(hc:∀ j,j<zs.length→w.cell? ⟨b,off+j,none⟩=some (.string (zs.getD j ByteArray.empty))) :
  Calls Tryz.prog 231 #[.slice (some ⟨b,off,none⟩) n c,.string x] w fun e w'=>e=.returned (.bool (Lib.containsS (zs.take n) x))∧w'=w:=Any.slices_Contains_string Tryz.X7 b off n c zs x w hz hbig hc
def Tryz.Eh:Go.Shelf.Ren:=⟨fun|15=>164|n=>n,fun|22=>51|3=>3|4=>4|n=>n,fun|n=>n⟩
theorem Tryz.yE:Go.Proofs.Lays2.n15 Tryz.prog Tryz.Eh:={
 mixed:=by kernel_rfl
 f15:=Tryz.func164.trans (congrArg some (by kernel_rfl))
 t3:=Tryz.underlying3
 a3:=Tryz.isAgg3
 z3:=Tryz.sizeOf3
 v3:=Tryz.zeroValue3
 t4:=Tryz.underlying4
 a4:=Tryz.isAgg4
 z4:=Tryz.sizeOf4
 v4:=Tryz.zeroValue4
 t22:=Tryz.underlying51
 a22:=Tryz.isAgg51
 z22:=Tryz.sizeOf51
 v22:=Tryz.zeroValue51
 i3:=by kernel_rfl }
open Go.RowKit Go.Lib in
theorem Tryz.slices_Clone_int (b off n c:Nat)(zs:List Int)(w:World)(hz:n≤zs.length)(hbig:n * 8≤140737488355328)(hc:∀ j,j<zs.length→w.cell? ⟨b,off+j,none⟩=some (.int .i64 (zs.getD j 0))) :
  Calls Tryz.prog 164 #[.slice (some ⟨b,off,none⟩) n c] w fun e w'=>∃ v',e=.returned v'∧w'.ownsRow w.heap.size 3 1 v' n ((zs.take n).map (Value.int .i64))∧v'≠.slice none 0 0∧Below w.heap.size w w':=Any.slices_Clone_int Tryz.yE b off n c zs w hz hbig hc
open Go.RowKit Go.Lib in
theorem Tryz.slices_Clone_int_nil (n c:Nat)(w:World) :
  Calls Tryz.prog 164 #[.slice none n c] w fun e w'=>e=.returned (.slice none 0 0)∧w'=w:=Any.slices_Clone_int_nil Tryz.yE n c w
def Tryz.Ei:Go.Shelf.Ren:=⟨fun|16=>153|n=>n,fun|24=>22|9=>9|4=>4|n=>n,fun|n=>n⟩
theorem Tryz.yF:Go.Proofs.Lays2.n16 Tryz.prog Tryz.Ei:={
 mixed:=by kernel_rfl
 f16:=Tryz.func153.trans (congrArg some (by kernel_rfl))
 t4:=Tryz.underlying4
 a4:=Tryz.isAgg4
 z4:=Tryz.sizeOf4
 v4:=Tryz.zeroValue4
 t9:=Tryz.underlying9
 a9:=Tryz.isAgg9
 z9:=Tryz.sizeOf9
 v9:=Tryz.zeroValue9
 t24:=Tryz.underlying22
 a24:=Tryz.isAgg22
 z24:=Tryz.sizeOf22
 v24:=Tryz.zeroValue22
 i9:=by kernel_rfl }
open Go.RowKit Go.Lib in
theorem Tryz.slices_Clone_string (b off n c:Nat)(zs:List ByteArray)(w:World)(hz:n≤zs.length)(hbig:n * 16≤140737488355328)(hc:∀ j,j<zs.length→w.cell? ⟨b,off+j,none⟩=some (.string (zs.getD j ByteArray.empty))) :
  Calls Tryz.prog 153 #[.slice (some ⟨b,off,none⟩) n c] w fun e w'=>∃ v',e=.returned v'∧w'.ownsRow w.heap.size 9 1 v' n ((zs.take n).map (Value.string))∧v'≠.slice none 0 0∧Below w.heap.size w w':=Any.slices_Clone_string Tryz.yF b off n c zs w hz hbig hc
open Go.RowKit Go.Lib in
theorem Tryz.slices_Clone_string_nil (n c:Nat)(w:World) :
  Calls Tryz.prog 153 #[.slice none n c] w fun e w'=>e=.returned (.slice none 0 0)∧w'=w:=Any.slices_Clone_string_nil Tryz.yF n c w
open Go.RowKit Go.Lib in
theorem Tryz.slices_Clone_int_zero (a:Addr)(c:Nat)(w:World) :
  Calls Tryz.prog 164 #[.slice (some a) 0 c] w fun e w'=>∃ v',e=.returned v'∧w'.ownsRow w.heap.size 3 1 v' 0 []∧v'≠.slice none 0 0∧Below w.heap.size w w':=Any.slices_Clone_int_zero Tryz.yE a c w
open Go.RowKit Go.Lib in
theorem Tryz.slices_Clone_string_zero (a:Addr)(c:Nat)(w:World) :
  Calls Tryz.prog 153 #[.slice (some a) 0 c] w fun e w'=>∃ v',e=.returned v'∧w'.ownsRow w.heap.size 9 1 v' 0 []∧v'≠.slice none 0 0∧Below w.heap.size w w':=Any.slices_Clone_string_zero Tryz.yF a c w
def Tryz.Jb:Go.Shelf.Ren:=⟨fun|194=>156|n=>n,fun|31=>22|9=>9|3=>3|4=>4|0=>0|n=>n,fun|n=>n⟩
theorem Tryz.OU:Go.Proofs.Lays.n194 Tryz.prog Tryz.Jb:={
 mixed:=by kernel_rfl
 f194:=Tryz.func156.trans (congrArg some (by kernel_rfl))
 t0:=Tryz.underlying0
 a0:=Tryz.isAgg0
 z0:=Tryz.sizeOf0
 v0:=Tryz.zeroValue0
 t3:=Tryz.underlying3
 a3:=Tryz.isAgg3
 z3:=Tryz.sizeOf3
 v3:=Tryz.zeroValue3
 t4:=Tryz.underlying4
 a4:=Tryz.isAgg4
 z4:=Tryz.sizeOf4
 v4:=Tryz.zeroValue4
 t9:=Tryz.underlying9
 a9:=Tryz.isAgg9
 z9:=Tryz.sizeOf9
 v9:=Tryz.zeroValue9
 t31:=Tryz.underlying22
 a31:=Tryz.isAgg22
 z31:=Tryz.sizeOf22
 v31:=Tryz.zeroValue22 }
open Go.RowKit Go.Lib Go.Sort in
theorem Tryz.slices_Compact_string (blk off cap:Nat)(zs:List (List UInt8))(w:World)(hH:Holds encStr w blk off zs.toArray)(hsz:zs.length≤9223372036854775807)(hcap:zs.length≤cap) :
  Calls Tryz.prog 156 #[.slice (some ⟨blk,off,none⟩) zs.length cap] w fun e w'=>e=.returned (.slice (some ⟨blk,off,none⟩) (Lib.compact zs).length cap)∧∃ q,w'=putRow encStr (Sort.ahead w q) blk off (Lib.compact zs++List.replicate (zs.length - (Lib.compact zs).length) []).toArray:=Any.slices_Compact_string Tryz.OU blk off cap zs w hH hsz hcap
open Go.RowKit Go.Lib Go.Sort in
theorem Tryz.slices_Compact_string_empty (a:Option Addr)(cap:Nat)(w:World) :
  Calls Tryz.prog 156 #[.slice a 0 cap] w fun e w'=>e=.returned (.slice a 0 cap)∧w'=w:=Any.slices_Compact_string_empty Tryz.OU a cap w
open Go.RowKit Go.Sort in
theorem Tryz.slices_Sort_string_none (p:Option Addr)(cap:Nat)(w:World) :
  Calls Tryz.prog 154 #[.slice p 0 cap] w fun e w'=>e=.returned (.tuple #[])∧w'=w:=Any.slices_Sort_string_none Tryz.OT p cap w
def Tryz.Gz:Go.Shelf.Ren:=⟨fun|26=>92|33=>151|34=>152|38=>217|n=>n,fun|24=>22|9=>9|3=>3|4=>4|40=>235|0=>0|n=>n,fun|n=>n⟩
theorem Tryz.A8:Go.Proofs.Lays2.n26 Tryz.prog Tryz.Gz:={
 mixed:=by kernel_rfl
 f26:=Tryz.func92.trans (congrArg some (by kernel_rfl))
 f33:=Tryz.func151.trans (congrArg some (by kernel_rfl))
 f34:=Tryz.func152.trans (congrArg some (by kernel_rfl))
 f38:=Tryz.func217.trans (congrArg some (by kernel_rfl))
 t0:=Tryz.underlying0
 a0:=Tryz.isAgg0
 z0:=Tryz.sizeOf0
 v0:=Tryz.zeroValue0
 t3:=Tryz.underlying3
 a3:=Tryz.isAgg3
 z3:=Tryz.sizeOf3
 v3:=Tryz.zeroValue3
 t4:=Tryz.underlying4
 a4:=Tryz.isAgg4
 z4:=Tryz.sizeOf4
 v4:=Tryz.zeroValue4
 t9:=Tryz.underlying9
 a9:=Tryz.isAgg9
 z9:=Tryz.sizeOf9
 v9:=Tryz.zeroValue9
 t24:=Tryz.underlying22
 a24:=Tryz.isAgg22
 z24:=Tryz.sizeOf22
 v24:=Tryz.zeroValue22
 t40:=Tryz.underlying235
 a40:=Tryz.isAgg235
 z40:=Tryz.sizeOf235
 v40:=Tryz.zeroValue235 }
end Go.Proofs

namespace Go.Proofs.YtknicmmigbhpcaaGreatDoor
open Go.RowKit
theorem Ej (c:UInt8):dG c=((decide (97≤(c.toNat:Int)) && decide ((c.toNat:Int)≤122)) || (decide (65≤(c.toNat:Int)) && decide ((c.toNat:Int)≤90))):=by
  have h1:(97≤c)↔(97≤(c.toNat:Int)):=by rw[UInt8.le_iff_toNat_le];show 97≤c.toNat↔_;omega
  have h2:(c≤122)↔((c.toNat:Int)≤122):=by rw[UInt8.le_iff_toNat_le];show c.toNat≤122↔_;omega
  have h3:(65≤c)↔(65≤(c.toNat:Int)):=by rw[UInt8.le_iff_toNat_le];show 65≤c.toNat↔_;omega
  have h4:(c≤90)↔((c.toNat:Int)≤90):=by rw[UInt8.le_iff_toNat_le];show c.toNat≤90↔_;omega
  simp only[dG,h1,h2,h3,h4]
theorem GA (c:UInt8):aL c=(decide (48≤(c.toNat:Int)) && decide ((c.toNat:Int)≤57)):=by
  have h1:(48≤c)↔(48≤(c.toNat:Int)):=by rw[UInt8.le_iff_toNat_le];show 48≤c.toNat↔_;omega
  have h2:(c≤57)↔((c.toNat:Int)≤57):=by rw[UInt8.le_iff_toNat_le];show c.toNat≤57↔_;omega
  simp only[aL,h1,h2]
theorem abK (c:UInt8)(k:UInt8):(c == k)=((c.toNat:Int) == (k.toNat:Int)):=by
  rw[Bool.eq_iff_iff,beq_iff_eq,beq_iff_eq,← UInt8.toNat_inj];omega
theorem qO (c:UInt8)(w:World):Calls Tryz.prog 196 #[.int .u8 c.toNat] w fun e w'=>e=.returned (.bool (dG c))∧w'=w:=by
  rw[Ej];go_enter Tryz.func196,Tryz.ntmps196;go_wp2
  all_goals (go_ret;refine⟨aX ?_,rfl⟩;simp;try omega)
theorem pY (c:UInt8)(w:World):Calls Tryz.prog 198 #[.int .u8 c.toNat] w fun e w'=>e=.returned (.bool (aL c))∧w'=w:=by
  rw[GA];go_enter Tryz.func198,Tryz.ntmps198;go_wp2
  all_goals (go_ret;refine⟨aX ?_,rfl⟩;simp;try omega)
theorem A9 (c:UInt8)(w:World):Calls Tryz.prog 255 #[.int .u8 c.toNat] w fun e w'=>e=.returned (.bool (aV c))∧w'=w:=by
  have hq:aV c=(dG c || aL c || ((c.toNat:Int) == 95)):=by rw[aV,abK];rfl
  rw[hq];clear hq;generalize hL:dG c=L;generalize hD:aL c=D
  cases L<;>cases D<;>
  (go_enter Tryz.func255,Tryz.ntmps255
   go_wp2_with (first|(go_at_call 196;refine(qO c _).mono ?_;rintro e w' ⟨rfl,rfl⟩;rw[hL])|(go_at_call 198;refine(pY c _).mono ?_;rintro e w' ⟨rfl,rfl⟩;rw[hD]))
   all_goals (go_ret;refine⟨aX ?_,rfl⟩;simp))
def kE (p:UInt8→Bool)(s:ByteArray):Nat:=(s.data.toList.takeWhile p).length
theorem yG (p:UInt8→Bool):∀ (T:List UInt8) (k:Nat),k≤(T.takeWhile p).length→(k<(T.takeWhile p).length↔∃ c,T[k]?=some c∧p c=true)
  | [],k,hk=>by simp
  | c :: r,0,hk=>by
    by_cases h:p c=true
    · simp[List.takeWhile_cons_of_pos h,h]
    · simp[List.takeWhile_cons_of_neg h,h]
  | c :: r,k+1,hk=>by
    by_cases h:p c=true
    · rw[List.takeWhile_cons_of_pos h,dX] at hk ⊢
      have:=yG p r k (by omega);simp only[List.getElem?_cons_succ];rw[← this];omega
    · rw[List.takeWhile_cons_of_neg h] at hk
      simp at hk
theorem Aw {s:ByteArray}{i:Nat}(hi:i<s.size):s.data.toList[i]?=some (s[i]'hi):=by
  rw[List.getElem?_eq_getElem (by rw[Lib.size_eq] at hi;exact hi)]
  rfl
theorem LZ (s:ByteArray)(w:World)(hs:s.size≤1099511627776) :
    Calls Tryz.prog 254 #[.string s,.func (.func 255) #[] #[]] w fun e w'=>e=.returned (.string (s.extract 0 (kE aV s)))∧w'=w:=by
  have hr:kE aV s≤s.size:=by rw[Lib.size_eq];exact jL aV _
  go_enter Tryz.func254,Tryz.ntmps254;go_wp2
  go_loop [5] (fun n=>∃ k:Nat,n=.int .i64 k∧k≤kE aV s) (fun n=>s.size - (intOf n).toNat)
  case atStart=>exact⟨0,rfl,Nat.zero_le _⟩
  case round =>
    obtain⟨k,rfl,hk⟩:=hrel;have hm:=yG aV s.data.toList k hk
    by_cases hlt:k<s.size
    · have hI:(k:Int) < ↑s.size:=by omega
      have hD:decide ((k:Int) < ↑s.size)=true:=decide_eq_true hI;rw[Aw hlt] at hm
      by_cases hp:aV (s[k]'hlt)=true
      · have hk1:k<kE aV s:=hm.2 ⟨_,rfl,hp⟩
        have HM:=ah hm;clear hm;go_wp2_with (go_at_call 255;refine(A9 _ _).mono ?_;rintro e w1 ⟨rfl,rfl⟩)
        go_round
        case rel=>exact⟨k+1,by go_num,by omega⟩
        case measure=>simp[intOf];omega
      · have hk1:k=kE aV s:=by
          rcases Nat.lt_or_ge k (kE aV s) with h|h
          · obtain⟨c,h1,h2⟩:=hm.1 h
            injection h1 with h1
            subst h1;exact absurd h2 hp
          · omega
        have hp':aV (s[k]'hlt)=false:=by simpa using hp
        have HK:=ah hk1;clear hm hp hk1;go_wp2_with (go_at_call 255;refine(A9 _ _).mono ?_;rintro e w1 ⟨rfl,rfl⟩);go_ret;exact⟨by rw[← HK.out];rfl,rfl⟩
    · have hk1:k=kE aV s:=by omega
      have hD:decide ((k:Int) < ↑s.size)=false:=decide_eq_false (by omega);have HK:=ah hk1;clear hm hk1;go_wp2;go_ret;exact⟨by rw[← HK.out];rfl,rfl⟩
theorem Qa (s:ByteArray)(w:World)(hs:s.size≤1099511627776) :
    Calls Tryz.prog 254 #[.string s,.func (.func 198) #[] #[]] w fun e w'=>e=.returned (.string (s.extract 0 (kE aL s)))∧w'=w:=by
  have hr:kE aL s≤s.size:=by rw[Lib.size_eq];exact jL aL _
  go_enter Tryz.func254,Tryz.ntmps254;go_wp2
  go_loop [5] (fun n=>∃ k:Nat,n=.int .i64 k∧k≤kE aL s) (fun n=>s.size - (intOf n).toNat)
  case atStart=>exact⟨0,rfl,Nat.zero_le _⟩
  case round =>
    obtain⟨k,rfl,hk⟩:=hrel;have hm:=yG aL s.data.toList k hk
    by_cases hlt:k<s.size
    · have hI:(k:Int) < ↑s.size:=by omega
      have hD:decide ((k:Int) < ↑s.size)=true:=decide_eq_true hI;rw[Aw hlt] at hm
      by_cases hp:aL (s[k]'hlt)=true
      · have hk1:k<kE aL s:=hm.2 ⟨_,rfl,hp⟩
        have HM:=ah hm;clear hm;go_wp2_with (go_at_call 198;refine(pY _ _).mono ?_;rintro e w1 ⟨rfl,rfl⟩)
        go_round
        case rel=>exact⟨k+1,by go_num,by omega⟩
        case measure=>simp[intOf];omega
      · have hk1:k=kE aL s:=by
          rcases Nat.lt_or_ge k (kE aL s) with h|h
          · obtain⟨c,h1,h2⟩:=hm.1 h
            injection h1 with h1
            subst h1;exact absurd h2 hp
          · omega
        have hp':aL (s[k]'hlt)=false:=by simpa using hp
        have HK:=ah hk1;clear hm hp hk1;go_wp2_with (go_at_call 198;refine(pY _ _).mono ?_;rintro e w1 ⟨rfl,rfl⟩);go_ret;exact⟨by rw[← HK.out];rfl,rfl⟩
    · have hk1:k=kE aL s:=by omega
      have hD:decide ((k:Int) < ↑s.size)=false:=decide_eq_false (by omega);have HK:=ah hk1;clear hm hk1;go_wp2;go_ret;exact⟨by rw[← HK.out];rfl,rfl⟩
theorem L6:∀ c:UInt8,dJ c=([32,9,13,10]:List UInt8).contains c:=by
 intro c;simp only[dJ,List.contains_cons,List.contains_nil,Bool.or_false,Bool.or_assoc]
theorem Tv (s:ByteArray)(w:World):Calls Tryz.prog 193 #[.string s,.string ⟨#[32,9,13,10]⟩] w fun e w'=>e=.returned (.string ⟨(s.data.toList.dropWhile dJ).toArray⟩)∧Below w.heap.size w w':=by
 have h:=Any.strings_TrimLeft_laid Tryz.XY (by kernel_rfl) s ⟨#[32,9,13,10]⟩ w (by decide) (ascii_of_all (by decide))
 have e:Lib.trimLeftS s.data.toList (ByteArray.mk #[32,9,13,10]).data.toList=s.data.toList.dropWhile dJ:=by
  unfold Lib.trimLeftS
  congr 1
  funext c
  exact(L6 c).symm
 rw[e] at h;exact h
theorem Jc (T:List UInt8):T.dropWhile dJ=T.drop (T.takeWhile dJ).length:=by
 induction T with
 | nil=>rfl
 | cons c r ih =>
  by_cases h:dJ c=true
  ·rw[List.dropWhile_cons_of_pos h,List.takeWhile_cons_of_pos h,ih];rfl
  ·rw[List.dropWhile_cons_of_neg h,List.takeWhile_cons_of_neg h];rfl
theorem Qb (T:List UInt8):(T.dropWhile dJ).takeWhile dJ=[]:=by
 cases h:T.dropWhile dJ with
 | nil=>rfl
 | cons c r =>
  have:=List.head?_dropWhile_not dJ T;rw[h] at this;simp only[List.head?_cons] at this;rw[List.takeWhile_cons_of_neg (by simpa using this)]
theorem X8 (T:List UInt8)(i:Nat)(h:[45,45] <+: T)(hi:T[i]?=some 10):0<i:=by
 obtain⟨r,rfl⟩:=h
 cases i with
 | zero=>cases hi
 | succ i=>omega
theorem Jd (s:ByteArray)(w:World)(hs:s.size≤1099511627776) :
  Calls Tryz.prog 124 #[.string s] w fun e w'=>e=.returned (.string (s.extract 0 (bJ false s.data.toList)))∧Below w.heap.size w w':=by
 have hle:=mG false s.data.toList;rw[← Lib.size_eq] at hle;go_enter Tryz.func124,Tryz.ntmps124;go_wp2
 go_loopw [3] (fun r wr=>∃ (d:Nat) (x:ByteArray),r=.string x∧d≤s.size∧x.data.toList=s.data.toList.drop d∧bJ false s.data.toList=d+bJ false (s.data.toList.drop d)∧Below w.heap.size w wr) (fun r _=>LW r)
 case atStart=>exact⟨0,s,rfl,Nat.zero_le _,rfl,by simp,Below.refl _ _⟩
 case round =>
  obtain⟨d,x,rfl,hd,hx,hl,hb⟩:=hrel;have hz:=hb.size
  have hxs:x.size=s.size - d:=by rw[Lib.size_eq,hx,List.length_drop,← Lib.size_eq]
  rw[wE (s.data.toList.drop d),← hx] at hl;have hkl:=jL dJ x.data.toList;have hnone:=Qb x.data.toList;have hdrop:=Jc x.data.toList;rw[← Lib.size_eq] at hkl;generalize hk:(x.data.toList.takeWhile dJ).length=k at hl hkl hdrop;generalize hy:(ByteArray.mk (x.data.toList.dropWhile dJ).toArray)=y
  have hyl:y.data.toList=x.data.toList.dropWhile dJ:=by rw[← hy]
  have hys:y.size=s.size - (d+k):=by rw[Lib.size_eq,hyl,hdrop,List.length_drop,← Lib.size_eq,hxs];omega
  rw[← hyl] at hl hnone hdrop;have HT:=ah (Tv x wr);have HY:=ah hy
  by_cases hp:[45,45] <+: y.data.toList
  ·have hpre:Lib.hasPrefix y.data.toList (ByteArray.mk #[45,45]).data.toList=true:=List.isPrefixOf_iff_prefix.2 hp
   rw[Gx _ hp] at hl
   rcases P9 y.data.toList with ⟨h1,h2⟩|⟨i,h1,h2,h3,h4⟩
   ·have HP:=ah (Tryz.strings_HasPrefix y ⟨#[45,45]⟩)
    have HI:=ah (Tryz.strings_Index_one y 10);have HJ:=ah h1;rw[AX _ h2,← Lib.size_eq,hys] at hl;have HL:=ah hl;have HB:=ah hpre;clear hl hy hyl hx hnone hdrop hp hpre hk hle h1 h2;go_wp2_with (first|(go_at_call 193;refine HT.out.mono ?_;rw[HY.out];rintro e w1 ⟨rfl,hb1⟩)|(go_at_call 194;refine(HP.out _).mono ?_;rw[HB.out];rintro e w2 ⟨rfl,rfl⟩)|(go_at_call 195;refine(HI.out _).mono ?_;rw[HJ.out];rintro e w2 ⟨rfl,rfl⟩));go_ret;exact⟨OP (by rw[HL.out];exact pW (by rw[show d+(k+(s.size - (d+k)))=s.size by omega,mF];rfl)),hb.trans (hb1.mono hz)⟩
   ·have HP:=ah (Tryz.strings_HasPrefix y ⟨#[45,45]⟩)
    have HI:=ah (Tryz.strings_Index_one y 10);have HJ:=ah h1;rw[AY i _ h2 h4] at hl;rw[← Lib.size_eq] at h3;have hi0:=X8 _ _ hp h2;have HL:=ah hl;have HB:=ah hpre
    have hq:(y.extract i y.size).data.toList=s.data.toList.drop (d+k+i):=by
     rw[mF,hdrop,hx,List.drop_drop,List.drop_drop]
     congr 1
     omega
    have hq2:y.data.toList.drop i=s.data.toList.drop (d+k+i):=by rw[← hq,mF]
    have hes:(y.extract i y.size).size=y.size - i:=by rw[ByteArray.size_extract];omega
    rw[hys] at hq hes;have HQ:=ah hq;have L8:=ah hq2;have Je:=ah hes;clear hl hy hyl hx hnone hdrop hp hpre hk hle h1 h2 h4 hq hq2 hes;go_wp2_with (first|(go_at_call 193;refine HT.out.mono ?_;rw[HY.out];rintro e w1 ⟨rfl,hb1⟩)|(go_at_call 194;refine(HP.out _).mono ?_;rw[HB.out];rintro e w2 ⟨rfl,rfl⟩)|(go_at_call 195;refine(HI.out _).mono ?_;rw[HJ.out];rintro e w2 ⟨rfl,rfl⟩))
    go_roundw
    case rel=>exact⟨d+k+i,_,rfl,by omega,HQ.out,by rw[HL.out,L8.out];omega,hb.trans (hb1.mono hz)⟩
    case measure=>simp only[LW];rw[Je.out];omega
  ·have hpre:Lib.hasPrefix y.data.toList (ByteArray.mk #[45,45]).data.toList=false:=by
    cases h:Lib.hasPrefix y.data.toList (ByteArray.mk #[45,45]).data.toList with
    | false=>rfl
    | true=>exact absurd (List.isPrefixOf_iff_prefix.1 h) hp
   rw[LX _ hp hnone,Nat.add_zero] at hl;have HP:=ah (Tryz.strings_HasPrefix y ⟨#[45,45]⟩);have HL:=ah hl;have HB:=ah hpre;clear hl hy hyl hx hnone hdrop hp hpre hk hle;go_wp2_with (first|(go_at_call 193;refine HT.out.mono ?_;rw[HY.out];rintro e w1 ⟨rfl,hb1⟩)|(go_at_call 194;refine(HP.out _).mono ?_;rw[HB.out];rintro e w2 ⟨rfl,rfl⟩));go_ret;exact⟨OP (by rw[HL.out];congr 1;omega),hb.trans (hb1.mono hz)⟩
end Go.Proofs.YtknicmmigbhpcaaGreatDoor
