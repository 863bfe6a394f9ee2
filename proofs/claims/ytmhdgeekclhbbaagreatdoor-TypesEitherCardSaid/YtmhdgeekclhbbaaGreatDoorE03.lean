/- Walks and plain laws, without a condition. -/
import Derived.Shelf.Spec.SearchS
import Derived.Shelf.Strings.Builder1
import Derived.Shelf.Strings.Builder2
import Derived.Shelf.Strings.OnBuilder
import Derived.Shelf.Strings.Trim
import Derived.Shelf.Small.Utf8
import Derived.Shelf.Small.Bits
import Derived.Shelf.Small.Strs
import Derived.Shelf.Small.Wraps
import Derived.Shelf.Strings.BuilderF
import Derived.Shelf.Strings.BuilderK
import Derived.Shelf.Strconv.Itoa0
import Derived.Shelf.Strconv.Itoa1
import Derived.Shelf.LaysM
import Derived.Shelf.Strconv.Itoa2
import Derived.Shelf.Strconv.Itoa3
import Derived.Shelf.Strings.Search1
import Derived.Shelf.Strings.Search2
import Derived.Shelf.Strings.Search3
import Derived.Shelf.Strings.Shaped
import Derived.Shelf.Sort.Plain
import Derived.Shelf.Strings.Prefix
import Derived.Shelf.Strings.Runes
import Derived.Shelf.Strings.AsciiSet
import Derived.Shelf.Unicode.DecodeSlow
import Derived.Shelf.Slices.Turned
import Derived.Ground.Names2Prog
import Derived.Shelf.Slices.Clone
import Derived.Shelf.Slices.CompactS
import Derived.Shelf.Slices.Cells
import Derived.Shelf.Slices.In.SortNone
import Derived.Test.YtmhdgeekclhbbaaGreatDoorProg
import Derived.Test.YtmhdgeekclhbbaaGreatDoorE01
import Derived.Shelf.Strings.SlTrimAscii
import Derived.Lib.SlTrimSet
import Derived.Great.BuildSlice
import Derived.Deep.WholeRow
import Derived.KernelRfl
set_option maxHeartbeats 16000000
set_option maxRecDepth 100000
set_option linter.unusedVariables false
set_option linter.unusedSimpArgs false
namespace Go.Proofs
open Go.Shelf
def Tryz.DY:Go.Shelf.Ren:=⟨fun|169=>72|n=>n,fun|70=>146|9=>9|0=>0|72=>149|37=>147|127=>215|3=>3|5=>5|n=>n,fun|n=>n⟩
theorem Tryz.adk:Go.Proofs.Lays.n169 Tryz.prog Tryz.DY:={
 mixed:=by kernel_rfl
 f169:=Tryz.func72.trans (congrArg some (by kernel_rfl))
 t0:=Tryz.underlying0
 a0:=Tryz.isAgg0
 z0:=Tryz.sizeOf0
 v0:=Tryz.zeroValue0
 t3:=Tryz.underlying3
 a3:=Tryz.isAgg3
 z3:=Tryz.sizeOf3
 v3:=Tryz.zeroValue3
 t9:=Tryz.underlying9
 a9:=Tryz.isAgg9
 z9:=Tryz.sizeOf9
 v9:=Tryz.zeroValue9
 t37:=Tryz.underlying147
 a37:=Tryz.isAgg147
 z37:=Tryz.sizeOf147
 v37:=Tryz.zeroValue147
 t70:=Tryz.underlying146
 a70:=Tryz.isAgg146
 z70:=Tryz.sizeOf146
 v70:=Tryz.zeroValue146
 t72:=Tryz.underlying149
 a72:=Tryz.isAgg149
 z72:=Tryz.sizeOf149
 v72:=Tryz.zeroValue149
 t127:=Tryz.underlying215
 a127:=Tryz.isAgg215
 z127:=Tryz.sizeOf215
 v127:=Tryz.zeroValue215 }
theorem Tryz.Bf:Builder.Extra Tryz.prog Tryz.DY:={
 sizeBuilder:=by kernel_rfl
 liesBuilder:=by kernel_rfl
 t5:=Tryz.underlying5
 a5:=Tryz.isAgg5
 z5:=Tryz.sizeOf5
 v5:=Tryz.zeroValue5
 infoByte:=by kernel_rfl
 cellsByte:=by kernel_rfl
 sizeByte:=by kernel_rfl
 neB5:=by decide }
def Tryz.Oo:Go.Shelf.Ren:=⟨fun|161=>188|231=>245|227=>180|233=>246|235=>247|228=>242|197=>281|151=>244|260=>300|152=>282|137=>301|119=>302|224=>285|225=>284|217=>283|266=>303|n=>n,fun|9=>9|4=>4|3=>3|5=>5|117=>260|116=>259|0=>0|124=>263|105=>300|21=>21|119=>354|46=>231|139=>357|138=>356|n=>n,fun|3=>1|4=>2|n=>n⟩
theorem Tryz.adl:Go.Proofs.Lays.n161 Tryz.prog Tryz.Oo:={
 mixed:=by kernel_rfl
 f119:=Tryz.func302.trans (congrArg some (by kernel_rfl))
 f137:=Tryz.func301.trans (congrArg some (by kernel_rfl))
 f151:=Tryz.func244.trans (congrArg some (by kernel_rfl))
 f152:=Tryz.func282.trans (congrArg some (by kernel_rfl))
 f161:=Tryz.func188.trans (congrArg some (by kernel_rfl))
 f197:=Tryz.func281.trans (congrArg some (by kernel_rfl))
 f217:=Tryz.func283.trans (congrArg some (by kernel_rfl))
 f224:=Tryz.func285.trans (congrArg some (by kernel_rfl))
 f225:=Tryz.func284.trans (congrArg some (by kernel_rfl))
 f227:=Tryz.func180.trans (congrArg some (by kernel_rfl))
 f228:=Tryz.func242.trans (congrArg some (by kernel_rfl))
 f231:=Tryz.func245.trans (congrArg some (by kernel_rfl))
 f233:=Tryz.func246.trans (congrArg some (by kernel_rfl))
 f235:=Tryz.func247.trans (congrArg some (by kernel_rfl))
 f260:=Tryz.func300.trans (congrArg some (by kernel_rfl))
 f266:=Tryz.func303.trans (congrArg some (by kernel_rfl))
 t0:=Tryz.underlying0
 a0:=Tryz.isAgg0
 z0:=Tryz.sizeOf0
 v0:=Tryz.zeroValue0
 t3:=Tryz.underlying3
 a3:=Tryz.isAgg3
 z3:=Tryz.sizeOf3
 v3:=Tryz.zeroValue3
 t4:=Tryz.underlying4
 a4:=Tryz.isAgg4
 z4:=Tryz.sizeOf4
 v4:=Tryz.zeroValue4
 t5:=Tryz.underlying5
 a5:=Tryz.isAgg5
 z5:=Tryz.sizeOf5
 v5:=Tryz.zeroValue5
 t9:=Tryz.underlying9
 a9:=Tryz.isAgg9
 z9:=Tryz.sizeOf9
 v9:=Tryz.zeroValue9
 t21:=Tryz.underlying21
 a21:=Tryz.isAgg21
 z21:=Tryz.sizeOf21
 v21:=Tryz.zeroValue21
 t46:=Tryz.underlying231
 a46:=Tryz.isAgg231
 z46:=Tryz.sizeOf231
 v46:=Tryz.zeroValue231
 t105:=Tryz.underlying300
 a105:=Tryz.isAgg300
 z105:=Tryz.sizeOf300
 v105:=Tryz.zeroValue300
 t116:=Tryz.underlying259
 a116:=Tryz.isAgg259
 z116:=Tryz.sizeOf259
 t117:=Tryz.underlying260
 a117:=Tryz.isAgg260
 z117:=Tryz.sizeOf260
 v117:=Tryz.zeroValue260
 t119:=Tryz.underlying354
 a119:=Tryz.isAgg354
 z119:=Tryz.sizeOf354
 t124:=Tryz.underlying263
 a124:=Tryz.isAgg263
 z124:=Tryz.sizeOf263
 v124:=Tryz.zeroValue263
 t138:=Tryz.underlying356
 a138:=Tryz.isAgg356
 z138:=Tryz.sizeOf356
 v138:=Tryz.zeroValue356
 t139:=Tryz.underlying357
 a139:=Tryz.isAgg357
 z139:=Tryz.sizeOf357
 v139:=Tryz.zeroValue357
 g3:=by kernel_rfl
 g4:=by kernel_rfl }
def Tryz.Oq:Go.Shelf.Ren:=⟨fun|162=>113|232=>179|227=>180|234=>181|236=>182|228=>242|271=>243|151=>244|120=>280|197=>281|152=>282|260=>300|137=>301|119=>302|224=>285|225=>284|217=>283|266=>303|n=>n,fun|9=>9|4=>4|3=>3|5=>5|117=>260|116=>259|0=>0|124=>263|21=>21|105=>300|46=>231|119=>354|139=>357|138=>356|n=>n,fun|3=>1|4=>2|n=>n⟩
theorem Tryz.adn:Go.Proofs.Lays.n162 Tryz.prog Tryz.Oq:={
 mixed:=by kernel_rfl
 f119:=Tryz.func302.trans (congrArg some (by kernel_rfl))
 f120:=Tryz.func280.trans (congrArg some (by kernel_rfl))
 f137:=Tryz.func301.trans (congrArg some (by kernel_rfl))
 f151:=Tryz.func244.trans (congrArg some (by kernel_rfl))
 f152:=Tryz.func282.trans (congrArg some (by kernel_rfl))
 f162:=Tryz.func113.trans (congrArg some (by kernel_rfl))
 f197:=Tryz.func281.trans (congrArg some (by kernel_rfl))
 f217:=Tryz.func283.trans (congrArg some (by kernel_rfl))
 f224:=Tryz.func285.trans (congrArg some (by kernel_rfl))
 f225:=Tryz.func284.trans (congrArg some (by kernel_rfl))
 f227:=Tryz.func180.trans (congrArg some (by kernel_rfl))
 f228:=Tryz.func242.trans (congrArg some (by kernel_rfl))
 f232:=Tryz.func179.trans (congrArg some (by kernel_rfl))
 f234:=Tryz.func181.trans (congrArg some (by kernel_rfl))
 f236:=Tryz.func182.trans (congrArg some (by kernel_rfl))
 f260:=Tryz.func300.trans (congrArg some (by kernel_rfl))
 f266:=Tryz.func303.trans (congrArg some (by kernel_rfl))
 f271:=Tryz.func243.trans (congrArg some (by kernel_rfl))
 t0:=Tryz.underlying0
 a0:=Tryz.isAgg0
 z0:=Tryz.sizeOf0
 v0:=Tryz.zeroValue0
 t3:=Tryz.underlying3
 a3:=Tryz.isAgg3
 z3:=Tryz.sizeOf3
 v3:=Tryz.zeroValue3
 t4:=Tryz.underlying4
 a4:=Tryz.isAgg4
 z4:=Tryz.sizeOf4
 v4:=Tryz.zeroValue4
 t5:=Tryz.underlying5
 a5:=Tryz.isAgg5
 z5:=Tryz.sizeOf5
 v5:=Tryz.zeroValue5
 t9:=Tryz.underlying9
 a9:=Tryz.isAgg9
 z9:=Tryz.sizeOf9
 v9:=Tryz.zeroValue9
 t21:=Tryz.underlying21
 a21:=Tryz.isAgg21
 z21:=Tryz.sizeOf21
 v21:=Tryz.zeroValue21
 t46:=Tryz.underlying231
 a46:=Tryz.isAgg231
 z46:=Tryz.sizeOf231
 v46:=Tryz.zeroValue231
 t105:=Tryz.underlying300
 a105:=Tryz.isAgg300
 z105:=Tryz.sizeOf300
 v105:=Tryz.zeroValue300
 t116:=Tryz.underlying259
 a116:=Tryz.isAgg259
 z116:=Tryz.sizeOf259
 t117:=Tryz.underlying260
 a117:=Tryz.isAgg260
 z117:=Tryz.sizeOf260
 v117:=Tryz.zeroValue260
 t119:=Tryz.underlying354
 a119:=Tryz.isAgg354
 z119:=Tryz.sizeOf354
 t124:=Tryz.underlying263
 a124:=Tryz.isAgg263
 z124:=Tryz.sizeOf263
 v124:=Tryz.zeroValue263
 t138:=Tryz.underlying356
 a138:=Tryz.isAgg356
 z138:=Tryz.sizeOf356
 v138:=Tryz.zeroValue356
 t139:=Tryz.underlying357
 a139:=Tryz.isAgg357
 z139:=Tryz.sizeOf357
 v139:=Tryz.zeroValue357
 g3:=by kernel_rfl
 g4:=by kernel_rfl }
open Go.RowKit in
theorem Tryz.strings_TrimRight_one (s:ByteArray)(c:UInt8)(hc:c.toNat<128)(w:World)(hs:s.size<=9223372036854775807) :
  Calls Tryz.prog 113 #[.string s,.string ⟨#[c]⟩] w λe w'=>e=.returned (.string ⟨(Lib.trimRightB s.data.toList c).toArray⟩)/\w'=w:=Any.strings_TrimRight_one Tryz.adn s c hc w hs
def Tryz.Ot:Go.Shelf.Ren:=⟨fun|160=>238|232=>179|231=>245|227=>180|234=>181|233=>246|236=>182|235=>247|228=>242|271=>243|151=>244|197=>281|120=>280|152=>282|260=>300|137=>301|119=>302|224=>285|225=>284|217=>283|266=>303|n=>n,fun|9=>9|4=>4|3=>3|5=>5|117=>260|116=>259|0=>0|124=>263|21=>21|105=>300|46=>231|119=>354|139=>357|138=>356|n=>n,fun|3=>1|4=>2|n=>n⟩
theorem Tryz.ado:Go.Proofs.Lays.n160 Tryz.prog Tryz.Ot:={
 mixed:=by kernel_rfl
 f119:=Tryz.func302.trans (congrArg some (by kernel_rfl))
 f120:=Tryz.func280.trans (congrArg some (by kernel_rfl))
 f137:=Tryz.func301.trans (congrArg some (by kernel_rfl))
 f151:=Tryz.func244.trans (congrArg some (by kernel_rfl))
 f152:=Tryz.func282.trans (congrArg some (by kernel_rfl))
 f160:=Tryz.func238.trans (congrArg some (by kernel_rfl))
 f197:=Tryz.func281.trans (congrArg some (by kernel_rfl))
 f217:=Tryz.func283.trans (congrArg some (by kernel_rfl))
 f224:=Tryz.func285.trans (congrArg some (by kernel_rfl))
 f225:=Tryz.func284.trans (congrArg some (by kernel_rfl))
 f227:=Tryz.func180.trans (congrArg some (by kernel_rfl))
 f228:=Tryz.func242.trans (congrArg some (by kernel_rfl))
 f231:=Tryz.func245.trans (congrArg some (by kernel_rfl))
 f232:=Tryz.func179.trans (congrArg some (by kernel_rfl))
 f233:=Tryz.func246.trans (congrArg some (by kernel_rfl))
 f234:=Tryz.func181.trans (congrArg some (by kernel_rfl))
 f235:=Tryz.func247.trans (congrArg some (by kernel_rfl))
 f236:=Tryz.func182.trans (congrArg some (by kernel_rfl))
 f260:=Tryz.func300.trans (congrArg some (by kernel_rfl))
 f266:=Tryz.func303.trans (congrArg some (by kernel_rfl))
 f271:=Tryz.func243.trans (congrArg some (by kernel_rfl))
 t0:=Tryz.underlying0
 a0:=Tryz.isAgg0
 z0:=Tryz.sizeOf0
 v0:=Tryz.zeroValue0
 t3:=Tryz.underlying3
 a3:=Tryz.isAgg3
 z3:=Tryz.sizeOf3
 v3:=Tryz.zeroValue3
 t4:=Tryz.underlying4
 a4:=Tryz.isAgg4
 z4:=Tryz.sizeOf4
 v4:=Tryz.zeroValue4
 t5:=Tryz.underlying5
 a5:=Tryz.isAgg5
 z5:=Tryz.sizeOf5
 v5:=Tryz.zeroValue5
 t9:=Tryz.underlying9
 a9:=Tryz.isAgg9
 z9:=Tryz.sizeOf9
 v9:=Tryz.zeroValue9
 t21:=Tryz.underlying21
 a21:=Tryz.isAgg21
 z21:=Tryz.sizeOf21
 v21:=Tryz.zeroValue21
 t46:=Tryz.underlying231
 a46:=Tryz.isAgg231
 z46:=Tryz.sizeOf231
 v46:=Tryz.zeroValue231
 t105:=Tryz.underlying300
 a105:=Tryz.isAgg300
 z105:=Tryz.sizeOf300
 v105:=Tryz.zeroValue300
 t116:=Tryz.underlying259
 a116:=Tryz.isAgg259
 z116:=Tryz.sizeOf259
 t117:=Tryz.underlying260
 a117:=Tryz.isAgg260
 z117:=Tryz.sizeOf260
 v117:=Tryz.zeroValue260
 t119:=Tryz.underlying354
 a119:=Tryz.isAgg354
 z119:=Tryz.sizeOf354
 t124:=Tryz.underlying263
 a124:=Tryz.isAgg263
 z124:=Tryz.sizeOf263
 v124:=Tryz.zeroValue263
 t138:=Tryz.underlying356
 a138:=Tryz.isAgg356
 z138:=Tryz.sizeOf356
 v138:=Tryz.zeroValue356
 t139:=Tryz.underlying357
 a139:=Tryz.isAgg357
 z139:=Tryz.sizeOf357
 v139:=Tryz.zeroValue357
 g3:=by kernel_rfl
 g4:=by kernel_rfl }
def Tryz.Ou:Go.Shelf.Ren:=⟨fun|103=>237|210=>279|206=>248|n=>n,fun|9=>9|4=>4|24=>296|3=>3|n=>n,fun|n=>n⟩
theorem Tryz.adp:Go.Proofs.Lays.n103 Tryz.prog Tryz.Ou:={
 mixed:=by kernel_rfl
 f103:=Tryz.func237.trans (congrArg some (by kernel_rfl))
 f206:=Tryz.func248.trans (congrArg some (by kernel_rfl))
 f210:=Tryz.func279.trans (congrArg some (by kernel_rfl))
 t3:=Tryz.underlying3
 a3:=Tryz.isAgg3
 z3:=Tryz.sizeOf3
 v3:=Tryz.zeroValue3
 t4:=Tryz.underlying4
 a4:=Tryz.isAgg4
 z4:=Tryz.sizeOf4
 v4:=Tryz.zeroValue4
 t9:=Tryz.underlying9
 a9:=Tryz.isAgg9
 z9:=Tryz.sizeOf9
 v9:=Tryz.zeroValue9
 t24:=Tryz.underlying296
 a24:=Tryz.isAgg296
 z24:=Tryz.sizeOf296
 v24:=Tryz.zeroValue296 }
open Go.RowKit in
theorem Tryz.strings_CutPrefix (s p:ByteArray)(w:World) :
  Calls Tryz.prog 237 #[.string s,.string p] w λe w'=>e=.returned (.tuple #[.string ⟨(Lib.trimPrefix s.data.toList p.data.toList).toArray⟩,.bool (Lib.hasPrefix s.data.toList p.data.toList)])/\w'=w:=Any.strings_CutPrefix Tryz.adp s p w
open Go.RowKit in
theorem Tryz.Builder_String_any_k (B b:Nat)(l:List UInt8)(w:World)(h:Lib.IsBuilderF 149 5 B b (Lib.byteCells l) w)(hBw:B<=w.heap.size) :
  Calls Tryz.prog 72 #[.pointer (some ⟨b,0,none⟩)] w λe w'=>e=.returned (.string ⟨l.toArray⟩)/\(Lib.IsBuilderF 149 5 B b (Lib.byteCells l) w'/\Below B w w'/\Lib.OthersKept 5 (some b) w w'):=Any.Builder_String_any_k Tryz.adk Tryz.Bf B b l w h hBw
def Tryz.Ov:Go.Shelf.Ren:=⟨fun|171=>234|243=>278|246=>299|283=>309|284=>310|285=>311|286=>312|129=>270|317=>315|318=>316|319=>317|320=>318|337=>320|338=>321|n=>n,fun|3=>3|9=>9|2=>2|4=>4|171=>350|0=>0|53=>197|37=>147|5=>5|173=>352|212=>360|51=>255|20=>20|213=>361|46=>231|232=>362|233=>363|n=>n,fun|17=>3|18=>4|19=>5|n=>n⟩
theorem Tryz.adq:Go.Proofs.Lays.n171 Tryz.prog Tryz.Ov:={
 mixed:=by kernel_rfl
 f129:=Tryz.func270.trans (congrArg some (by kernel_rfl))
 f171:=Tryz.func234.trans (congrArg some (by kernel_rfl))
 f243:=Tryz.func278.trans (congrArg some (by kernel_rfl))
 f246:=Tryz.func299.trans (congrArg some (by kernel_rfl))
 f283:=Tryz.func309.trans (congrArg some (by kernel_rfl))
 f284:=Tryz.func310.trans (congrArg some (by kernel_rfl))
 f285:=Tryz.func311.trans (congrArg some (by kernel_rfl))
 f286:=Tryz.func312.trans (congrArg some (by kernel_rfl))
 f317:=Tryz.func315.trans (congrArg some (by kernel_rfl))
 f318:=Tryz.func316.trans (congrArg some (by kernel_rfl))
 f319:=Tryz.func317.trans (congrArg some (by kernel_rfl))
 f320:=Tryz.func318.trans (congrArg some (by kernel_rfl))
 f337:=Tryz.func320.trans (congrArg some (by kernel_rfl))
 f338:=Tryz.func321.trans (congrArg some (by kernel_rfl))
 t0:=Tryz.underlying0
 a0:=Tryz.isAgg0
 z0:=Tryz.sizeOf0
 v0:=Tryz.zeroValue0
 t2:=Tryz.underlying2
 a2:=Tryz.isAgg2
 z2:=Tryz.sizeOf2
 v2:=Tryz.zeroValue2
 t3:=Tryz.underlying3
 a3:=Tryz.isAgg3
 z3:=Tryz.sizeOf3
 v3:=Tryz.zeroValue3
 t4:=Tryz.underlying4
 a4:=Tryz.isAgg4
 z4:=Tryz.sizeOf4
 v4:=Tryz.zeroValue4
 t5:=Tryz.underlying5
 a5:=Tryz.isAgg5
 z5:=Tryz.sizeOf5
 v5:=Tryz.zeroValue5
 t9:=Tryz.underlying9
 a9:=Tryz.isAgg9
 z9:=Tryz.sizeOf9
 v9:=Tryz.zeroValue9
 t20:=Tryz.underlying20
 a20:=Tryz.isAgg20
 z20:=Tryz.sizeOf20
 v20:=Tryz.zeroValue20
 t37:=Tryz.underlying147
 a37:=Tryz.isAgg147
 z37:=Tryz.sizeOf147
 v37:=Tryz.zeroValue147
 t46:=Tryz.underlying231
 a46:=Tryz.isAgg231
 z46:=Tryz.sizeOf231
 v46:=Tryz.zeroValue231
 t51:=Tryz.underlying255
 a51:=Tryz.isAgg255
 z51:=Tryz.sizeOf255
 v51:=Tryz.zeroValue255
 t53:=Tryz.underlying197
 a53:=Tryz.isAgg197
 z53:=Tryz.sizeOf197
 v53:=Tryz.zeroValue197
 t171:=Tryz.underlying350
 a171:=Tryz.isAgg350
 z171:=Tryz.sizeOf350
 v171:=Tryz.zeroValue350
 t173:=Tryz.underlying352
 a173:=Tryz.isAgg352
 z173:=Tryz.sizeOf352
 v173:=Tryz.zeroValue352
 t212:=Tryz.underlying360
 a212:=Tryz.isAgg360
 z212:=Tryz.sizeOf360
 v212:=Tryz.zeroValue360
 t213:=Tryz.underlying361
 a213:=Tryz.isAgg361
 z213:=Tryz.sizeOf361
 t232:=Tryz.underlying362
 a232:=Tryz.isAgg362
 z232:=Tryz.sizeOf362
 v232:=Tryz.zeroValue362
 t233:=Tryz.underlying363
 a233:=Tryz.isAgg363
 z233:=Tryz.sizeOf363
 v233:=Tryz.zeroValue363
 g17:=by kernel_rfl
 g18:=by kernel_rfl
 g19:=by kernel_rfl }
open Go.RowKit Go.Sort Go.Lib in
theorem Tryz.strconv_Itoa_small (i:Nat)(hi:i<100)(w:World) :
  Calls Tryz.prog 234 #[.int .i64 i] w λe w'=>e=.returned (.string ⟨(Lib.decDigits i).toArray⟩)/\w'=w:=Any.strconv_Itoa_small Tryz.adq i hi w
def Tryz.Ow:Go.Shelf.Ren:=⟨fun|143=>190|219=>249|217=>283|225=>284|224=>285|267=>286|266=>303|314=>304|n=>n,fun|9=>9|3=>3|4=>4|5=>5|46=>231|146=>345|51=>255|n=>n,fun|1=>0|n=>n⟩
theorem Tryz.adr:Go.Proofs.Lays.n143 Tryz.prog Tryz.Ow:={
 mixed:=by kernel_rfl
 f143:=Tryz.func190.trans (congrArg some (by kernel_rfl))
 f217:=Tryz.func283.trans (congrArg some (by kernel_rfl))
 f219:=Tryz.func249.trans (congrArg some (by kernel_rfl))
 f224:=Tryz.func285.trans (congrArg some (by kernel_rfl))
 f225:=Tryz.func284.trans (congrArg some (by kernel_rfl))
 f266:=Tryz.func303.trans (congrArg some (by kernel_rfl))
 f267:=Tryz.func286.trans (congrArg some (by kernel_rfl))
 f314:=Tryz.func304.trans (congrArg some (by kernel_rfl))
 t3:=Tryz.underlying3
 a3:=Tryz.isAgg3
 z3:=Tryz.sizeOf3
 v3:=Tryz.zeroValue3
 t4:=Tryz.underlying4
 a4:=Tryz.isAgg4
 z4:=Tryz.sizeOf4
 v4:=Tryz.zeroValue4
 t5:=Tryz.underlying5
 a5:=Tryz.isAgg5
 z5:=Tryz.sizeOf5
 v5:=Tryz.zeroValue5
 t9:=Tryz.underlying9
 a9:=Tryz.isAgg9
 z9:=Tryz.sizeOf9
 v9:=Tryz.zeroValue9
 t46:=Tryz.underlying231
 a46:=Tryz.isAgg231
 z46:=Tryz.sizeOf231
 v46:=Tryz.zeroValue231
 t51:=Tryz.underlying255
 a51:=Tryz.isAgg255
 z51:=Tryz.sizeOf255
 v51:=Tryz.zeroValue255
 t146:=Tryz.underlying345
 a146:=Tryz.isAgg345
 z146:=Tryz.sizeOf345
 v146:=Tryz.zeroValue345
 g1:=by kernel_rfl }
open Go.RowKit Go.Lib in
theorem Tryz.strings_Index_one (s:ByteArray)(c:UInt8)(w:World) :
  Calls Tryz.prog 190 #[.string s,.string ⟨#[c]⟩] w λe w'=>e=.returned (.int .i64 (Lib.indexByte s.data.toList c))/\w'=w:=Any.strings_Index_one Tryz.adr s c w
def Tryz.Ox:Go.Shelf.Ren:=⟨fun|190=>149|125=>224|258=>223|128=>269|129=>270|302=>261|303=>262|304=>263|305=>264|306=>265|307=>266|308=>146|309=>267|310=>268|333=>289|329=>290|330=>291|334=>292|335=>293|336=>212|344=>305|n=>n,fun|31=>35|9=>9|3=>3|46=>231|0=>0|51=>255|53=>197|4=>4|183=>316|182=>315|131=>163|5=>5|218=>333|222=>337|228=>347|229=>348|n=>n,fun|n=>n⟩
theorem Tryz.UZ:Go.Proofs.Lays.n190 Tryz.prog Tryz.Ox:={
 mixed:=by kernel_rfl
 f125:=Tryz.func224.trans (congrArg some (by kernel_rfl))
 f128:=Tryz.func269.trans (congrArg some (by kernel_rfl))
 f129:=Tryz.func270.trans (congrArg some (by kernel_rfl))
 f190:=Tryz.func149.trans (congrArg some (by kernel_rfl))
 f258:=Tryz.func223.trans (congrArg some (by kernel_rfl))
 f302:=Tryz.func261.trans (congrArg some (by kernel_rfl))
 f303:=Tryz.func262.trans (congrArg some (by kernel_rfl))
 f304:=Tryz.func263.trans (congrArg some (by kernel_rfl))
 f305:=Tryz.func264.trans (congrArg some (by kernel_rfl))
 f306:=Tryz.func265.trans (congrArg some (by kernel_rfl))
 f307:=Tryz.func266.trans (congrArg some (by kernel_rfl))
 f308:=Tryz.func146.trans (congrArg some (by kernel_rfl))
 f309:=Tryz.func267.trans (congrArg some (by kernel_rfl))
 f310:=Tryz.func268.trans (congrArg some (by kernel_rfl))
 f329:=Tryz.func290.trans (congrArg some (by kernel_rfl))
 f330:=Tryz.func291.trans (congrArg some (by kernel_rfl))
 f333:=Tryz.func289.trans (congrArg some (by kernel_rfl))
 f334:=Tryz.func292.trans (congrArg some (by kernel_rfl))
 f335:=Tryz.func293.trans (congrArg some (by kernel_rfl))
 f336:=Tryz.func212.trans (congrArg some (by kernel_rfl))
 f344:=Tryz.func305.trans (congrArg some (by kernel_rfl))
 t0:=Tryz.underlying0
 a0:=Tryz.isAgg0
 z0:=Tryz.sizeOf0
 v0:=Tryz.zeroValue0
 t3:=Tryz.underlying3
 a3:=Tryz.isAgg3
 z3:=Tryz.sizeOf3
 v3:=Tryz.zeroValue3
 t4:=Tryz.underlying4
 a4:=Tryz.isAgg4
 z4:=Tryz.sizeOf4
 v4:=Tryz.zeroValue4
 t5:=Tryz.underlying5
 a5:=Tryz.isAgg5
 z5:=Tryz.sizeOf5
 v5:=Tryz.zeroValue5
 t9:=Tryz.underlying9
 a9:=Tryz.isAgg9
 z9:=Tryz.sizeOf9
 v9:=Tryz.zeroValue9
 t31:=Tryz.underlying35
 a31:=Tryz.isAgg35
 z31:=Tryz.sizeOf35
 v31:=Tryz.zeroValue35
 t46:=Tryz.underlying231
 a46:=Tryz.isAgg231
 z46:=Tryz.sizeOf231
 v46:=Tryz.zeroValue231
 t51:=Tryz.underlying255
 a51:=Tryz.isAgg255
 z51:=Tryz.sizeOf255
 v51:=Tryz.zeroValue255
 t53:=Tryz.underlying197
 a53:=Tryz.isAgg197
 z53:=Tryz.sizeOf197
 v53:=Tryz.zeroValue197
 t131:=Tryz.underlying163
 a131:=Tryz.isAgg163
 z131:=Tryz.sizeOf163
 v131:=Tryz.zeroValue163
 t182:=Tryz.underlying315
 a182:=Tryz.isAgg315
 z182:=Tryz.sizeOf315
 v182:=Tryz.zeroValue315
 t183:=Tryz.underlying316
 a183:=Tryz.isAgg316
 z183:=Tryz.sizeOf316
 v183:=Tryz.zeroValue316
 t218:=Tryz.underlying333
 a218:=Tryz.isAgg333
 z218:=Tryz.sizeOf333
 v218:=Tryz.zeroValue333
 t222:=Tryz.underlying337
 a222:=Tryz.isAgg337
 z222:=Tryz.sizeOf337
 v222:=Tryz.zeroValue337
 t228:=Tryz.underlying347
 a228:=Tryz.isAgg347
 z228:=Tryz.sizeOf347
 v228:=Tryz.zeroValue347
 t229:=Tryz.underlying348
 a229:=Tryz.isAgg348
 z229:=Tryz.sizeOf348
 v229:=Tryz.zeroValue348 }
open Go.Sort Go.RowKit in
theorem Tryz.slices_Sort_string (blk off cap:Nat)(ss:List (List UInt8))(w:World)(hH:Holds encStr w blk off ss.toArray)(hblk:blk<w.heap.size)(hsz:ss.length<4611686018427387904) :
  Calls Tryz.prog 149 #[.slice (some ⟨blk,off,none⟩) ss.length cap] w λe w' =>
   e=.returned (.tuple #[])/\∃ n os,w'=grow (putRow encStr (Sort.ahead w n) blk off (ss.mergeSort λx y=>decide (x<=y)).toArray) os:=Any.slices_Sort_string Tryz.UZ blk off cap ss w hH hblk hsz
def Tryz.RV:Go.Shelf.Ren:=⟨fun|99=>189|206=>248|n=>n,fun|9=>9|4=>4|3=>3|n=>n,fun|n=>n⟩
theorem Tryz.ae5:Go.Proofs.Lays.n99 Tryz.prog Tryz.RV:={
 mixed:=by kernel_rfl
 f99:=Tryz.func189.trans (congrArg some (by kernel_rfl))
 f206:=Tryz.func248.trans (congrArg some (by kernel_rfl))
 t3:=Tryz.underlying3
 a3:=Tryz.isAgg3
 z3:=Tryz.sizeOf3
 v3:=Tryz.zeroValue3
 t4:=Tryz.underlying4
 a4:=Tryz.isAgg4
 z4:=Tryz.sizeOf4
 v4:=Tryz.zeroValue4
 t9:=Tryz.underlying9
 a9:=Tryz.isAgg9
 z9:=Tryz.sizeOf9
 v9:=Tryz.zeroValue9 }
open Go.RowKit Go.Lib in
theorem Tryz.strings_HasPrefix (s p:ByteArray)(w:World) :
  Calls Tryz.prog 189 #[.string s,.string p] w λe w'=>e=.returned (.bool (Lib.hasPrefix s.data.toList p.data.toList))/\w'=w:=Any.strings_HasPrefix Tryz.ae5 s p w
def Tryz.Oy:Go.Shelf.Ren:=⟨fun|110=>227|109=>272|n=>n,fun|31=>35|9=>9|4=>4|3=>3|0=>0|n=>n,fun|n=>n⟩
theorem Tryz.ads:Go.Proofs.Lays.n110 Tryz.prog Tryz.Oy:={
 mixed:=by kernel_rfl
 f109:=Tryz.func272.trans (congrArg some (by kernel_rfl))
 f110:=Tryz.func227.trans (congrArg some (by kernel_rfl))
 t0:=Tryz.underlying0
 a0:=Tryz.isAgg0
 z0:=Tryz.sizeOf0
 v0:=Tryz.zeroValue0
 t3:=Tryz.underlying3
 a3:=Tryz.isAgg3
 z3:=Tryz.sizeOf3
 v3:=Tryz.zeroValue3
 t4:=Tryz.underlying4
 a4:=Tryz.isAgg4
 z4:=Tryz.sizeOf4
 v4:=Tryz.zeroValue4
 t9:=Tryz.underlying9
 a9:=Tryz.isAgg9
 z9:=Tryz.sizeOf9
 v9:=Tryz.zeroValue9
 t31:=Tryz.underlying35
 a31:=Tryz.isAgg35
 z31:=Tryz.sizeOf35
 v31:=Tryz.zeroValue35 }
open Go.Lib in
theorem Tryz.slices_Contains_string (b off n c:Nat)(zs:List ByteArray)(x:ByteArray)(w:World)(hz:n<=zs.length)(hbig:n<=9223372036854775807)(hc:∀ j,j<zs.length->w.cell? ⟨b,off+j,none⟩=some (.string (zs.getD j ByteArray.empty))) :
  Calls Tryz.prog 227 #[.slice (some ⟨b,off,none⟩) n c,.string x] w λe w'=>e=.returned (.bool (Lib.containsS (zs.take n) x))/\w'=w:=Any.slices_Contains_string Tryz.ads b off n c zs x w hz hbig hc
def Tryz.JI:Go.Shelf.Ren:=⟨fun|15=>159|n=>n,fun|22=>127|3=>3|4=>4|n=>n,fun|n=>n⟩
theorem Tryz.Cw:Go.Proofs.Lays2.n15 Tryz.prog Tryz.JI:={
 mixed:=by kernel_rfl
 f15:=Tryz.func159.trans (congrArg some (by kernel_rfl))
 t3:=Tryz.underlying3
 a3:=Tryz.isAgg3
 z3:=Tryz.sizeOf3
 v3:=Tryz.zeroValue3
 t4:=Tryz.underlying4
 a4:=Tryz.isAgg4
 z4:=Tryz.sizeOf4
 v4:=Tryz.zeroValue4
 t22:=Tryz.underlying127
 a22:=Tryz.isAgg127
 z22:=Tryz.sizeOf127
 v22:=Tryz.zeroValue127
 i3:=by kernel_rfl }
open Go.RowKit Go.Lib in
theorem Tryz.slices_Clone_int (b off n c:Nat)(zs:List Int)(w:World)(hz:n<=zs.length)(hbig:n * 8<=140737488355328)(hc:∀ j,j<zs.length->w.cell? ⟨b,off+j,none⟩=some (.int .i64 (zs.getD j 0))) :
  Calls Tryz.prog 159 #[.slice (some ⟨b,off,none⟩) n c] w λe w'=>∃ v',e=.returned v'/\w'.ownsRow w.heap.size 3 1 v' n ((zs.take n).map (Value.int .i64))/\v'≠.slice none 0 0/\Below w.heap.size w w':=Any.slices_Clone_int Tryz.Cw b off n c zs w hz hbig hc
open Go.RowKit Go.Lib in
theorem Tryz.slices_Clone_int_nil (n c:Nat)(w:World) :
  Calls Tryz.prog 159 #[.slice none n c] w λe w'=>e=.returned (.slice none 0 0)/\w'=w:=Any.slices_Clone_int_nil Tryz.Cw n c w
def Tryz.JJ:Go.Shelf.Ren:=⟨fun|16=>148|n=>n,fun|24=>35|9=>9|4=>4|n=>n,fun|n=>n⟩
theorem Tryz.Cx:Go.Proofs.Lays2.n16 Tryz.prog Tryz.JJ:={
 mixed:=by kernel_rfl
 f16:=Tryz.func148.trans (congrArg some (by kernel_rfl))
 t4:=Tryz.underlying4
 a4:=Tryz.isAgg4
 z4:=Tryz.sizeOf4
 v4:=Tryz.zeroValue4
 t9:=Tryz.underlying9
 a9:=Tryz.isAgg9
 z9:=Tryz.sizeOf9
 v9:=Tryz.zeroValue9
 t24:=Tryz.underlying35
 a24:=Tryz.isAgg35
 z24:=Tryz.sizeOf35
 v24:=Tryz.zeroValue35
 i9:=by kernel_rfl }
open Go.RowKit Go.Lib in
theorem Tryz.slices_Clone_string (b off n c:Nat)(zs:List ByteArray)(w:World)(hz:n<=zs.length)(hbig:n * 16<=140737488355328)(hc:∀ j,j<zs.length->w.cell? ⟨b,off+j,none⟩=some (.string (zs.getD j ByteArray.empty))) :
  Calls Tryz.prog 148 #[.slice (some ⟨b,off,none⟩) n c] w λe w'=>∃ v',e=.returned v'/\w'.ownsRow w.heap.size 9 1 v' n ((zs.take n).map (Value.string))/\v'≠.slice none 0 0/\Below w.heap.size w w':=Any.slices_Clone_string Tryz.Cx b off n c zs w hz hbig hc
open Go.RowKit Go.Lib in
theorem Tryz.slices_Clone_string_nil (n c:Nat)(w:World) :
  Calls Tryz.prog 148 #[.slice none n c] w λe w'=>e=.returned (.slice none 0 0)/\w'=w:=Any.slices_Clone_string_nil Tryz.Cx n c w
open Go.RowKit Go.Lib in
theorem Tryz.slices_Clone_int_zero (a:Addr)(c:Nat)(w:World) :
  Calls Tryz.prog 159 #[.slice (some a) 0 c] w λe w'=>∃ v',e=.returned v'/\w'.ownsRow w.heap.size 3 1 v' 0 []/\v'≠.slice none 0 0/\Below w.heap.size w w':=Any.slices_Clone_int_zero Tryz.Cw a c w
open Go.RowKit Go.Lib in
theorem Tryz.slices_Clone_string_zero (a:Addr)(c:Nat)(w:World) :
  Calls Tryz.prog 148 #[.slice (some a) 0 c] w λe w'=>∃ v',e=.returned v'/\w'.ownsRow w.heap.size 9 1 v' 0 []/\v'≠.slice none 0 0/\Below w.heap.size w w':=Any.slices_Clone_string_zero Tryz.Cx a c w
def Tryz.Oz:Go.Shelf.Ren:=⟨fun|194=>151|n=>n,fun|31=>35|9=>9|3=>3|4=>4|0=>0|n=>n,fun|n=>n⟩
theorem Tryz.U0:Go.Proofs.Lays.n194 Tryz.prog Tryz.Oz:={
 mixed:=by kernel_rfl
 f194:=Tryz.func151.trans (congrArg some (by kernel_rfl))
 t0:=Tryz.underlying0
 a0:=Tryz.isAgg0
 z0:=Tryz.sizeOf0
 v0:=Tryz.zeroValue0
 t3:=Tryz.underlying3
 a3:=Tryz.isAgg3
 z3:=Tryz.sizeOf3
 v3:=Tryz.zeroValue3
 t4:=Tryz.underlying4
 a4:=Tryz.isAgg4
 z4:=Tryz.sizeOf4
 v4:=Tryz.zeroValue4
 t9:=Tryz.underlying9
 a9:=Tryz.isAgg9
 z9:=Tryz.sizeOf9
 v9:=Tryz.zeroValue9
 t31:=Tryz.underlying35
 a31:=Tryz.isAgg35
 z31:=Tryz.sizeOf35
 v31:=Tryz.zeroValue35 }
open Go.RowKit Go.Lib Go.Sort in
theorem Tryz.slices_Compact_string (blk off cap:Nat)(zs:List (List UInt8))(w:World)(hH:Holds encStr w blk off zs.toArray)(hsz:zs.length<=9223372036854775807)(hcap:zs.length<=cap) :
  Calls Tryz.prog 151 #[.slice (some ⟨blk,off,none⟩) zs.length cap] w λe w'=>e=.returned (.slice (some ⟨blk,off,none⟩) (Lib.compact zs).length cap)/\∃ q,w'=putRow encStr (Sort.ahead w q) blk off (Lib.compact zs++List.replicate (zs.length - (Lib.compact zs).length) []).toArray:=Any.slices_Compact_string Tryz.U0 blk off cap zs w hH hsz hcap
open Go.RowKit Go.Lib Go.Sort in
theorem Tryz.slices_Compact_string_empty (a:Option Addr)(cap:Nat)(w:World) :
  Calls Tryz.prog 151 #[.slice a 0 cap] w λe w'=>e=.returned (.slice a 0 cap)/\w'=w:=Any.slices_Compact_string_empty Tryz.U0 a cap w
open Go.RowKit Go.Sort in
theorem Tryz.slices_Sort_string_none (p:Option Addr)(cap:Nat)(w:World) :
  Calls Tryz.prog 149 #[.slice p 0 cap] w λe w'=>e=.returned (.tuple #[])/\w'=w:=Any.slices_Sort_string_none Tryz.UZ p cap w
def Tryz.Me:Go.Shelf.Ren:=⟨fun|26=>87|33=>146|34=>147|38=>212|n=>n,fun|24=>35|9=>9|3=>3|4=>4|40=>231|0=>0|n=>n,fun|n=>n⟩
theorem Tryz.FZ:Go.Proofs.Lays2.n26 Tryz.prog Tryz.Me:={
 mixed:=by kernel_rfl
 f26:=Tryz.func87.trans (congrArg some (by kernel_rfl))
 f33:=Tryz.func146.trans (congrArg some (by kernel_rfl))
 f34:=Tryz.func147.trans (congrArg some (by kernel_rfl))
 f38:=Tryz.func212.trans (congrArg some (by kernel_rfl))
 t0:=Tryz.underlying0
 a0:=Tryz.isAgg0
 z0:=Tryz.sizeOf0
 v0:=Tryz.zeroValue0
 t3:=Tryz.underlying3
 a3:=Tryz.isAgg3
 z3:=Tryz.sizeOf3
 v3:=Tryz.zeroValue3
 t4:=Tryz.underlying4
 a4:=Tryz.isAgg4
 z4:=Tryz.sizeOf4
 v4:=Tryz.zeroValue4
 t9:=Tryz.underlying9
 a9:=Tryz.isAgg9
 z9:=Tryz.sizeOf9
 v9:=Tryz.zeroValue9
 t24:=Tryz.underlying35
 a24:=Tryz.isAgg35
 z24:=Tryz.sizeOf35
 v24:=Tryz.zeroValue35
 t40:=Tryz.underlying231
 a40:=Tryz.isAgg231
 z40:=Tryz.sizeOf231
 v40:=Tryz.zeroValue231 }
end Go.Proofs

namespace Go.Proofs.YtmhdgeekclhbbaaGreatDoor
open Go.RowKit
variable{s:ByteArray}
theorem JK (c:UInt8):fq c=((decide (97<=(c.toNat:Int)) && decide ((c.toNat:Int)<=122)) || (decide (65<=(c.toNat:Int)) && decide ((c.toNat:Int)<=90))):=by
  have h1:(97<=c)↔(97<=(c.toNat:Int)):=by rw[UInt8.le_iff_toNat_le];show 97<=c.toNat↔_;omega
  have h2:(c<=122)↔((c.toNat:Int)<=122):=by rw[UInt8.le_iff_toNat_le];show c.toNat<=122↔_;omega
  have h3:(65<=c)↔(65<=(c.toNat:Int)):=by rw[UInt8.le_iff_toNat_le];show 65<=c.toNat↔_;omega
  have h4:(c<=90)↔((c.toNat:Int)<=90):=by rw[UInt8.le_iff_toNat_le];show c.toNat<=90↔_;omega
  simp only[fq,h1,h2,h3,h4]
theorem Mf (c:UInt8):bf c=(decide (48<=(c.toNat:Int)) && decide ((c.toNat:Int)<=57)):=by
  have h1:(48<=c)↔(48<=(c.toNat:Int)):=by rw[UInt8.le_iff_toNat_le];show 48<=c.toNat↔_;omega
  have h2:(c<=57)↔((c.toNat:Int)<=57):=by rw[UInt8.le_iff_toNat_le];show c.toNat<=57↔_;omega
  simp only[bf,h1,h2]
theorem agA (c:UInt8)(k:UInt8):(c == k)=((c.toNat:Int) == (k.toNat:Int)):=by
  rw[Bool.eq_iff_iff,beq_iff_eq,beq_iff_eq,<- UInt8.toNat_inj];omega
theorem vR (c:UInt8)(w:World):Calls Tryz.prog 191 #[.int .u8 c.toNat] w λe w'=>e=.returned (.bool (fq c))/\w'=w:=by
  rw[JK];go_enter Tryz.func191,Tryz.ntmps191;go_wp2
  all_goals (go_ret;refine⟨bF ?_,rfl⟩;simp;try omega)
theorem uR (c:UInt8)(w:World):Calls Tryz.prog 193 #[.int .u8 c.toNat] w λe w'=>e=.returned (.bool (bf c))/\w'=w:=by
  rw[Mf];go_enter Tryz.func193,Tryz.ntmps193;go_wp2
  all_goals (go_ret;refine⟨bF ?_,rfl⟩;simp;try omega)
theorem F3 (c:UInt8)(w:World):Calls Tryz.prog 251 #[.int .u8 c.toNat] w λe w'=>e=.returned (.bool (bJ c))/\w'=w:=by
  have hq:bJ c=(fq c || bf c || ((c.toNat:Int) == 95)):=by rw[bJ,agA];rfl
  rw[hq];clear hq;generalize hL:fq c=L;generalize hD:bf c=D
  cases L<;>cases D<;>
  (go_enter Tryz.func251,Tryz.ntmps251
   go_wp2_with (first|(go_at_call 191;refine(vR c _).mono ?_;rintro e w' ⟨rfl,rfl⟩;rw[hL])|(go_at_call 193;refine(uR c _).mono ?_;rintro e w' ⟨rfl,rfl⟩;rw[hD]))
   all_goals (go_ret;refine⟨bF ?_,rfl⟩;simp))
def nZ (p:UInt8->Bool)(s:ByteArray):Nat:=(s.data.toList.takeWhile p).length
theorem Cy (p:UInt8->Bool):∀ (T:aH) (k:Nat),k<=(T.takeWhile p).length->(k<(T.takeWhile p).length↔∃ c,T[k]?=some c/\p c=true)
  | [],k,hk=>by simp
  | c :: r,0,hk=>by
    by_cases h:p c=true
    · simp[List.takeWhile_cons_of_pos h,h]
    · simp[List.takeWhile_cons_of_neg h,h]
  | c :: r,k+1,hk=>by
    by_cases h:p c=true
    · rw[List.takeWhile_cons_of_pos h,dN] at hk |-
      have:=Cy p r k (by omega);simp only[List.getElem?_cons_succ];rw[<- this];omega
    · rw[List.takeWhile_cons_of_neg h] at hk
      simp at hk
theorem Fh {i:Nat}(hi:i<s.size):s.data.toList[i]?=some (s[i]'hi):=by
  rw[AB (by rw[Lib.size_eq] at hi;exact hi)]
  rfl
theorem RX (s:ByteArray)(w:World)(hs:s.size<=1099511627776) :
    Calls Tryz.prog 250 #[.string s,.func (.func 251) #[] #[]] w λe w'=>e=.returned (.string (s.extract 0 (nZ bJ s)))/\w'=w:=by
  have hr:nZ bJ s<=s.size:=by rw[Lib.size_eq];exact lY bJ _
  go_enter Tryz.func250,Tryz.ntmps250;go_wp2
  go_loop [5] (λn=>∃ k:Nat,n=.int .i64 k/\k<=nZ bJ s) (λn=>s.size - (intOf n).toNat)
  case atStart=>exact⟨0,rfl,mD _⟩
  case round =>
    obtain⟨k,rfl,hk⟩:=hrel;have hm:=Cy bJ s.data.toList k hk
    by_cases hlt:k<s.size
    · have hI:(k:Int) < ↑s.size:=by omega
      have hD:decide ((k:Int) < ↑s.size)=true:=kS hI;rw[Fh hlt] at hm
      by_cases hp:bJ (s[k]'hlt)=true
      · have hk1:k<nZ bJ s:=hm.2 ⟨_,rfl,hp⟩
        have HM:=ay hm;clear hm;go_wp2_with (go_at_call 251;refine(F3 _ _).mono ?_;rintro e w1 ⟨rfl,rfl⟩)
        go_round
        case rel=>exact⟨k+1,by go_num,by omega⟩
        case measure=>simp[intOf];omega
      · have hk1:k=nZ bJ s:=by
          rcases Nat.lt_or_ge k (nZ bJ s) with h|h
          · obtain⟨c,h1,h2⟩:=hm.1 h
            injection h1 with h1
            subst h1;exact absurd h2 hp
          · omega
        have hp':bJ (s[k]'hlt)=false:=by simpa using hp
        have HK:=ay hk1;clear hm hp hk1;go_wp2_with (go_at_call 251;refine(F3 _ _).mono ?_;rintro e w1 ⟨rfl,rfl⟩);go_ret;exact⟨by rw[<- HK.out];rfl,rfl⟩
    · have hk1:k=nZ bJ s:=by omega
      have hD:decide ((k:Int) < ↑s.size)=false:=fu (by omega);have HK:=ay hk1;clear hm hk1;go_wp2;go_ret;exact⟨by rw[<- HK.out];rfl,rfl⟩
theorem Wp (s:ByteArray)(w:World)(hs:s.size<=1099511627776) :
    Calls Tryz.prog 250 #[.string s,.func (.func 193) #[] #[]] w λe w'=>e=.returned (.string (s.extract 0 (nZ bf s)))/\w'=w:=by
  have hr:nZ bf s<=s.size:=by rw[Lib.size_eq];exact lY bf _
  go_enter Tryz.func250,Tryz.ntmps250;go_wp2
  go_loop [5] (λn=>∃ k:Nat,n=.int .i64 k/\k<=nZ bf s) (λn=>s.size - (intOf n).toNat)
  case atStart=>exact⟨0,rfl,mD _⟩
  case round =>
    obtain⟨k,rfl,hk⟩:=hrel;have hm:=Cy bf s.data.toList k hk
    by_cases hlt:k<s.size
    · have hI:(k:Int) < ↑s.size:=by omega
      have hD:decide ((k:Int) < ↑s.size)=true:=kS hI;rw[Fh hlt] at hm
      by_cases hp:bf (s[k]'hlt)=true
      · have hk1:k<nZ bf s:=hm.2 ⟨_,rfl,hp⟩
        have HM:=ay hm;clear hm;go_wp2_with (go_at_call 193;refine(uR _ _).mono ?_;rintro e w1 ⟨rfl,rfl⟩)
        go_round
        case rel=>exact⟨k+1,by go_num,by omega⟩
        case measure=>simp[intOf];omega
      · have hk1:k=nZ bf s:=by
          rcases Nat.lt_or_ge k (nZ bf s) with h|h
          · obtain⟨c,h1,h2⟩:=hm.1 h
            injection h1 with h1
            subst h1;exact absurd h2 hp
          · omega
        have hp':bf (s[k]'hlt)=false:=by simpa using hp
        have HK:=ay hk1;clear hm hp hk1;go_wp2_with (go_at_call 193;refine(uR _ _).mono ?_;rintro e w1 ⟨rfl,rfl⟩);go_ret;exact⟨by rw[<- HK.out];rfl,rfl⟩
    · have hk1:k=nZ bf s:=by omega
      have hD:decide ((k:Int) < ↑s.size)=false:=fu (by omega);have HK:=ay hk1;clear hm hk1;go_wp2;go_ret;exact⟨by rw[<- HK.out];rfl,rfl⟩
theorem RY:∀ c:UInt8,eH c=([32,9,13,10]:aH).contains c:=by
 intro c;simp only[eH,List.contains_cons,List.contains_nil,Bool.or_false,Bool.or_assoc]
theorem Ze (s:ByteArray)(w:World):Calls Tryz.prog 188 #[.string s,.string ⟨#[32,9,13,10]⟩] w λe w'=>e=.returned (.string ⟨(s.data.toList.dropWhile eH).toArray⟩)/\Below w.heap.size w w':=by
 have h:=Any.strings_TrimLeft_laid Tryz.adl (by kernel_rfl) s ⟨#[32,9,13,10]⟩ w (by decide) (ascii_of_all (by decide))
 have e:Lib.trimLeftS s.data.toList (ByteArray.mk #[32,9,13,10]).data.toList=s.data.toList.dropWhile eH:=by
  unfold Lib.trimLeftS
  congr 1
  funext c
  exact(RY c).symm
 rw[e] at h;exact h
theorem OA (T:aH):T.dropWhile eH=T.drop (T.takeWhile eH).length:=by
 induction T with
 | nil=>rfl
 | cons c r ih =>
  by_cases h:eH c=true
  ·rw[List.dropWhile_cons_of_pos h,List.takeWhile_cons_of_pos h,ih];rfl
  ·rw[List.dropWhile_cons_of_neg h,List.takeWhile_cons_of_neg h];rfl
theorem Wq (T:aH):(T.dropWhile eH).takeWhile eH=[]:=by
 cases h:T.dropWhile eH with
 | nil=>rfl
 | cons c r =>
  have:=List.head?_dropWhile_not eH T;rw[h] at this;simp only[List.head?_cons] at this;rw[List.takeWhile_cons_of_neg (by simpa using this)]
theorem adt (T:aH)(i:Nat)(h:[45,45] <+: T)(hi:T[i]?=some 10):0<i:=by
 obtain⟨r,rfl⟩:=h
 cases i with
 | zero=>cases hi
 | succ i=>omega
theorem OB (s:ByteArray)(w:World)(hs:s.size<=1099511627776) :
  Calls Tryz.prog 119 #[.string s] w λe w'=>e=.returned (.string (s.extract 0 (cK false s.data.toList)))/\Below w.heap.size w w':=by
 have hle:=qy false s.data.toList;rw[<- Lib.size_eq] at hle;go_enter Tryz.func119,Tryz.ntmps119;go_wp2
 go_loopw [3] (λr wr=>∃ (d:Nat) (x:ByteArray),r=.string x/\d<=s.size/\x.data.toList=s.data.toList.drop d/\cK false s.data.toList=d+cK false (s.data.toList.drop d)/\Below w.heap.size w wr) (λr _=>RD r)
 case atStart=>exact⟨0,s,rfl,mD _,rfl,by simp,bY _ _⟩
 case round =>
  obtain⟨d,x,rfl,hd,hx,hl,hb⟩:=hrel;have hz:=hb.size
  have hxs:x.size=s.size - d:=by rw[Lib.size_eq,hx,zh,<- Lib.size_eq]
  rw[AP (s.data.toList.drop d),<- hx] at hl;have hkl:=lY eH x.data.toList;have hnone:=Wq x.data.toList;have hdrop:=OA x.data.toList;rw[<- Lib.size_eq] at hkl;generalize hk:(x.data.toList.takeWhile eH).length=k at hl hkl hdrop;generalize hy:(ByteArray.mk (x.data.toList.dropWhile eH).toArray)=y
  have hyl:y.data.toList=x.data.toList.dropWhile eH:=by rw[<- hy]
  have hys:y.size=s.size - (d+k):=by rw[Lib.size_eq,hyl,hdrop,zh,<- Lib.size_eq,hxs];omega
  rw[<- hyl] at hl hnone hdrop;have HT:=ay (Ze x wr);have HY:=ay hy
  by_cases hp:[45,45] <+: y.data.toList
  ·have hpre:Lib.hasPrefix y.data.toList (ByteArray.mk #[45,45]).data.toList=true:=List.isPrefixOf_iff_prefix.2 hp
   rw[LZ _ hp] at hl
   rcases V8 y.data.toList with ⟨h1,h2⟩|⟨i,h1,h2,h3,h4⟩
   ·have HP:=ay (Tryz.strings_HasPrefix y ⟨#[45,45]⟩)
    have HI:=ay (Tryz.strings_Index_one y 10);have HJ:=ay h1;rw[FC _ h2,<- Lib.size_eq,hys] at hl;have HL:=ay hl;have HB:=ay hpre;clear hl hy hyl hx hnone hdrop hp hpre hk hle h1 h2;go_wp2_with (first|(go_at_call 188;refine HT.out.mono ?_;rw[HY.out];rintro e w1 ⟨rfl,hb1⟩)|(go_at_call 189;refine(HP.out _).mono ?_;rw[HB.out];rintro e w2 ⟨rfl,rfl⟩)|(go_at_call 190;refine(HI.out _).mono ?_;rw[HJ.out];rintro e w2 ⟨rfl,rfl⟩));go_ret;exact⟨UY (by rw[HL.out];exact uM (by rw[show d+(k+(s.size - (d+k)))=s.size by omega,qx];rfl)),hb.trans (hb1.mono hz)⟩
   ·have HP:=ay (Tryz.strings_HasPrefix y ⟨#[45,45]⟩)
    have HI:=ay (Tryz.strings_Index_one y 10);have HJ:=ay h1;rw[FD i _ h2 h4] at hl;rw[<- Lib.size_eq] at h3;have hi0:=adt _ _ hp h2;have HL:=ay hl;have HB:=ay hpre
    have hq:(y.extract i y.size).data.toList=s.data.toList.drop (d+k+i):=by
     rw[qx,hdrop,hx,List.drop_drop,List.drop_drop]
     congr 1
     omega
    have hq2:y.data.toList.drop i=s.data.toList.drop (d+k+i):=by rw[<- hq,qx]
    have hes:(y.extract i y.size).size=y.size - i:=by rw[ByteArray.size_extract];omega
    rw[hys] at hq hes;have HQ:=ay hq;have RZ:=ay hq2;have HES:=ay hes;clear hl hy hyl hx hnone hdrop hp hpre hk hle h1 h2 h4 hq hq2 hes;go_wp2_with (first|(go_at_call 188;refine HT.out.mono ?_;rw[HY.out];rintro e w1 ⟨rfl,hb1⟩)|(go_at_call 189;refine(HP.out _).mono ?_;rw[HB.out];rintro e w2 ⟨rfl,rfl⟩)|(go_at_call 190;refine(HI.out _).mono ?_;rw[HJ.out];rintro e w2 ⟨rfl,rfl⟩))
    go_roundw
    case rel=>exact⟨d+k+i,_,rfl,by omega,HQ.out,by rw[HL.out,RZ.out];omega,hb.trans (hb1.mono hz)⟩
    case measure=>simp only[RD];rw[HES.out];omega
  ·have hpre:Lib.hasPrefix y.data.toList (ByteArray.mk #[45,45]).data.toList=false:=by
    cases h:Lib.hasPrefix y.data.toList (ByteArray.mk #[45,45]).data.toList with
    | false=>rfl
    | true=>exact absurd (List.isPrefixOf_iff_prefix.1 h) hp
   rw[RF _ hp hnone,qp] at hl;have HP:=ay (Tryz.strings_HasPrefix y ⟨#[45,45]⟩);have HL:=ay hl;have HB:=ay hpre;clear hl hy hyl hx hnone hdrop hp hpre hk hle;go_wp2_with (first|(go_at_call 188;refine HT.out.mono ?_;rw[HY.out];rintro e w1 ⟨rfl,hb1⟩)|(go_at_call 189;refine(HP.out _).mono ?_;rw[HB.out];rintro e w2 ⟨rfl,rfl⟩));go_ret;exact⟨UY (by rw[HL.out];congr 1;omega),hb.trans (hb1.mono hz)⟩
def Ws (s:ByteArray)(t:Nat × Nat × Nat):Value:=.tuple #[.int .i64 t.1,.string (s.extract 0 t.2.1),.int .i64 t.2.2]
theorem mQ {t:Nat × Nat × Nat}{a b:Int}{x:ByteArray}(h1:a=t.1)(h2:x=s.extract 0 t.2.1)(h3:b=t.2.2):Ending.returned (.tuple #[.int .i64 a,.string x,.int .i64 b])=.returned (Ws s t):=by
 rw[h1,h2,h3];rfl
theorem xB (s:ByteArray):(⟨#[]⟩:ByteArray)=s.extract 0 0:=uM (by rw[jh];rfl)
theorem ext_size (s:ByteArray)(k:Nat)(h:k<=s.size):(s.extract 0 k).size=k:=by rw[ByteArray.size_extract];omega
theorem take_takeWhile (p:UInt8->Bool)(T:aH):T.take (T.takeWhile p).length=T.takeWhile p:=by
 obtain⟨r,hr⟩:=List.takeWhile_prefix (p:=p) (l:=T)
 conv=>lhs;arg 2;rw[<- hr]
 simp
theorem Zf (p:UInt8->Bool)(s:ByteArray):nZ p s<=s.size:=by rw[Lib.size_eq];exact lY p _
theorem OC (p:UInt8->Bool)(s:ByteArray):(s.extract 0 (nZ p s)).data.toList=s.data.toList.takeWhile p:=by
 rw[jh,List.drop_zero,nZ,take_takeWhile]
theorem Sb (s:ByteArray)(w:World)(hs:s.size<=1099511627776) :
  Calls Tryz.prog 194 #[.string s] w λe w'=>e=.returned (Ws s (rT s.data.toList))/\w'=w:=by
 have hr:=Zf bf s;have hn:=OC bf s;have hz:=ext_size s _ hr;have HR:=ay (Wp s w hs)
 by_cases L6:60<nZ bf s
 ·have hq:rT s.data.toList=(0,0,21):=by rw[rT,bq (.inl L6)]
  have HQ:=ay hq;generalize hy:s.extract 0 (nZ bf s)=y at HR hz
  have hI:(60:Int) < ↑y.size:=by omega
  have hD:decide ((60:Int) < ↑y.size)=true:=kS hI;clear hq hn hz;go_enter Tryz.func194,Tryz.ntmps194;go_wp2_with (go_at_call 250;refine HR.out.mono ?_;rintro e w1 ⟨rfl,rfl⟩);go_ret3
  refine⟨mQ (t:=rT s.data.toList) ?_ ?_ ?_,rfl⟩<;>rw[HQ.out]
  ·rfl
  ·exact xB s
  ·rfl
 ·by_cases h1:1<nZ bf s
  ·have h0:0<(s.extract 0 (nZ bf s)).size:=by omega
   generalize hy:s.extract 0 (nZ bf s)=y at HR hz hn h0;have hb:=Fh h0;rw[hn] at hb
   have hI:¬ (60:Int) < ↑y.size:=by omega
   have hD:decide ((60:Int) < ↑y.size)=false:=fu hI
   have hI1:(1:Int) < ↑y.size:=by omega
   have hD1:decide ((1:Int) < ↑y.size)=true:=kS hI1
   by_cases hc:(y[0]'h0)=48
   ·have hq:rT s.data.toList=(0,0,21):=by rw[rT,bq (.inr ⟨h1,by rw[hb,hc]⟩)]
    have hE:(((y[0]'h0).toNat:Int) == 48)=true:=by rw[hc];rfl
    have HQ:=ay hq;clear hq hn hb hc hz;go_enter Tryz.func194,Tryz.ntmps194;go_wp2_with (go_at_call 250;refine HR.out.mono ?_;rintro e w1 ⟨rfl,rfl⟩);go_ret3
    refine⟨mQ (t:=rT s.data.toList) ?_ ?_ ?_,rfl⟩<;>rw[HQ.out]
    ·rfl
    ·exact xB s
    ·rfl
   ·have hq:rT s.data.toList=(3,nZ bf s,0):=by
     rw[rT,aP]
     ·rfl
     ·rintro(h|⟨_,h⟩)
      ·exact L6 h
      ·rw[hb] at h;injection h with h;exact hc h
    have hE:(((y[0]'h0).toNat:Int) == 48)=false:=by
     rw[<- wT,beq_iff_eq];intro h;exact hc (UInt8.toNat_inj.1 (by show _=48;omega))
    have HQ:=ay hq;have HY:=ay hy;clear hq hn hb hc hy hz;go_enter Tryz.func194,Tryz.ntmps194;go_wp2_with (go_at_call 250;refine HR.out.mono ?_;rintro e w1 ⟨rfl,rfl⟩);go_ret3
    refine⟨mQ (t:=rT s.data.toList) ?_ ?_ ?_,rfl⟩<;>rw[HQ.out]
    ·rfl
    ·exact HY.out.symm
    ·rfl
  ·have hq:rT s.data.toList=(3,nZ bf s,0):=by
    rw[rT,aP]
    ·rfl
    ·rintro(h|⟨h,_⟩)
     ·exact L6 h
     ·exact h1 h
   generalize hy:s.extract 0 (nZ bf s)=y at HR hz
   have hI:¬ (60:Int) < ↑y.size:=by omega
   have hD:decide ((60:Int) < ↑y.size)=false:=fu hI
   have hI1:¬ (1:Int) < ↑y.size:=by omega
   have hD1:decide ((1:Int) < ↑y.size)=false:=fu hI1;have HQ:=ay hq;have HY:=ay hy;clear hq hn hy hz;go_enter Tryz.func194,Tryz.ntmps194;go_wp2_with (go_at_call 250;refine HR.out.mono ?_;rintro e w1 ⟨rfl,rfl⟩);go_ret3
   refine⟨mQ (t:=rT s.data.toList) ?_ ?_ ?_,rfl⟩<;>rw[HQ.out]
   ·rfl
   ·exact HY.out.symm
   ·rfl
theorem Zg (w:World):Calls Tryz.prog 252 #[] w λe w'=>e=.returned (.agg #[.string ⟨#[97,115,115,101,114,116]⟩,.string ⟨#[98,111,111,108]⟩,.string ⟨#[101,108,115,101]⟩,.string ⟨#[102,97,108,115,101]⟩,.string ⟨#[102,117,110]⟩,.string ⟨#[105,102]⟩,.string ⟨#[105,109,112,111,114,116]⟩,.string ⟨#[105,110]⟩,.string ⟨#[105,110,116]⟩,.string ⟨#[108,101,116]⟩,.string ⟨#[110,111,116]⟩,.string ⟨#[112,117,98]⟩,.string ⟨#[114,101,115]⟩,.string ⟨#[116,104,101,110]⟩,.string ⟨#[116,114,117,101]⟩])/\Below w.heap.size w w':=by
 go_enter Tryz.func252,Tryz.ntmps252;go_wp2;refine o9 (v:=.agg #[.string ⟨#[97,115,115,101,114,116]⟩,.string ⟨#[98,111,111,108]⟩,.string ⟨#[101,108,115,101]⟩,.string ⟨#[102,97,108,115,101]⟩,.string ⟨#[102,117,110]⟩,.string ⟨#[105,102]⟩,.string ⟨#[105,109,112,111,114,116]⟩,.string ⟨#[105,110]⟩,.string ⟨#[105,110,116]⟩,.string ⟨#[108,101,116]⟩,.string ⟨#[110,111,116]⟩,.string ⟨#[112,117,98]⟩,.string ⟨#[114,101,115]⟩,.string ⟨#[116,104,101,110]⟩,.string ⟨#[116,114,117,101]⟩]) (results_cell_row rfl _ _ w.heap.size 303 _ (0,0) _ rfl (aZ _ _) Tryz.underlying303 rfl (by kernel_rfl)) rfl ⟨rfl,(bY _ _).alloc (bI _) _⟩
def DZ (x:ByteArray)(j:Nat):ByteArray:=if j<15 then ⟨(uy.getD j []).toArray⟩ else x
theorem Wt:∀ j:Fin 15,Lib.bsGo (λt=>Op.bytesLess (if t<15 then uy.getD t [] else uy.getD j []) (uy.getD j [])) 15 0 15=j:=by decide
theorem zR (x:ByteArray)(j:Nat):(DZ x j).data.toList=if j<15 then uy.getD j [] else x.data.toList:=by
 unfold DZ
 split<;>rfl
theorem Wu (x:ByteArray):∀ j,j<15->(#[.string ⟨#[97,115,115,101,114,116]⟩,.string ⟨#[98,111,111,108]⟩,.string ⟨#[101,108,115,101]⟩,.string ⟨#[102,97,108,115,101]⟩,.string ⟨#[102,117,110]⟩,.string ⟨#[105,102]⟩,.string ⟨#[105,109,112,111,114,116]⟩,.string ⟨#[105,110]⟩,.string ⟨#[105,110,116]⟩,.string ⟨#[108,101,116]⟩,.string ⟨#[110,111,116]⟩,.string ⟨#[112,117,98]⟩,.string ⟨#[114,101,115]⟩,.string ⟨#[116,104,101,110]⟩,.string ⟨#[116,114,117,101]⟩]:Array Value)[0+j]?=some (.string (DZ x j))
 | 0,_=>rfl
 | 1,_=>rfl
 | 2,_=>rfl
 | 3,_=>rfl
 | 4,_=>rfl
 | 5,_=>rfl
 | 6,_=>rfl
 | 7,_=>rfl
 | 8,_=>rfl
 | 9,_=>rfl
 | 10,_=>rfl
 | 11,_=>rfl
 | 12,_=>rfl
 | 13,_=>rfl
 | 14,_=>rfl
 | n+15,h=>absurd h (by omega)
theorem adu (j:Nat)(hj:j<15):uy.getD j []∈uy:=by
 have hj0:j<uy.length:=hj;rw[Fb,AB hj0,Option.getD_some];exact oQ _
theorem Wv (x:ByteArray):decide (Lib.bsGo (λt=>Op.bytesLess (DZ x t).toList x.toList) 15 0 15<15/\DZ x (Lib.bsGo (λt=>Op.bytesLess (DZ x t).toList x.toList) 15 0 15)=x)=decide (x.data.toList∈uy):=by
 simp only[Lib.toList_data,zR]
 by_cases h:x.data.toList∈uy
 ·obtain⟨j,hj0,e⟩:=List.mem_iff_getElem.1 h
  have ek:uy.getD j []=x.data.toList:=by rw[Fb,AB hj0,Option.getD_some,e]
  have hj:j<15:=hj0;have hk:=Wt ⟨j,hj⟩;simp only[ek] at hk;rw[hk,kS h,kS];refine⟨hj,uM ?_⟩;rw[zR,bq hj,ek]
 ·rw[fu h,fu]
  rintro⟨hb,e⟩
  apply h
  rw[<- e,zR,bq hb];exact adu _ hb
def Zh (x:ByteArray)(w:World)(e:Ending)(w':World):Prop :=
 (∃ n:Nat,e=.returned (.tuple #[.int .i64 n,.bool (decide (x.data.toList∈uy))]))/\Below w.heap.size w w'
theorem Sc (b:Nat)(x:ByteArray)(w:World)(hc:∀ j,j<15->w.cell? ⟨b,0+j,none⟩=some (.string (DZ x j))) :
  Calls Tryz.prog 87 #[.slice (some ⟨b,0,none⟩) 15 15,.string x] w (Zh x w):=by
 refine(Any2.slices_BinarySearch_string Tryz.FZ b 0 15 15 (DZ x) x w (by decide) hc).mono ?_;rintro e w' ⟨rfl,q,rfl⟩;rw[Wv];exact⟨⟨_,rfl⟩,below_drewN (bY _ _) _⟩
theorem Zi (s:ByteArray)(w:World)(hs:s.size<=1099511627776) :
  Calls Tryz.prog 192 #[.string s] w λe w'=>e=.returned (Ws s (pq s.data.toList))/\Below w.heap.size w w':=by
 have hr:=Zf bJ s;have hn:=OC bJ s;have hz:=ext_size s _ hr;have HR:=ay (RX s w hs)
 by_cases h40:40<nZ bJ s
 ·have hq:pq s.data.toList=(0,0,20):=by unfold pq;exact bq h40
  have HQ:=ay hq;generalize hy:s.extract 0 (nZ bJ s)=y at HR hz
  have hI:(40:Int) < ↑y.size:=by omega
  clear hq hn hz;go_enter Tryz.func192,Tryz.ntmps192;go_wp2_with (go_at_call 250;refine HR.out.mono ?_;rintro e w1 ⟨rfl,rfl⟩);go_ret3
  refine⟨mQ (t:=pq s.data.toList) ?_ ?_ ?_,bY _ _⟩<;>rw[HQ.out]
  ·rfl
  ·exact xB s
  ·rfl
 ·have hq:pq s.data.toList=(if s.data.toList.takeWhile bJ∈uy then (2,nZ bJ s,0) else (1,nZ bJ s,0)):=by unfold pq;exact aP h40
  have HQ:=ay hq;generalize hy:s.extract 0 (nZ bJ s)=y at HR hz hn;have HY:=ay hy;have HN:=ay hn
  have hI:¬ (40:Int) < ↑y.size:=by omega
  clear hq hn hy hz;go_enter Tryz.func192,Tryz.ntmps192;go_wp2_with (first|(go_at_call 250;refine HR.out.mono ?_;rintro e w1 ⟨rfl,rfl⟩)|(go_at_call 252;refine(Zg _).mono ?_;rintro e w2 ⟨rfl,hb⟩)|(go_at_call 87;refine(Sc _ y _ ?c1).mono ?_))
  case c1 =>
   intro j hj;rw[bg (aZ _ _)];exact Wu y j hj
  rintro e w3 ⟨⟨n,rfl⟩,hb3⟩;have hbb:=(hb.alloc hb.size _).trans (hb3.mono (by have:=hb.size;simp;omega))
  cases hk:decide (y.data.toList∈uy) with
  | true =>
   have HK:=ay hk;clear hk;go_wp2;go_ret3
   refine⟨mQ (t:=pq s.data.toList) ?_ ?_ ?_,hbb⟩<;>rw[HQ.out,bq (by rw[<- HN.out];exact V7 HK.out)]
   ·rfl
   ·exact HY.out.symm
   ·rfl
  | false =>
   have HK:=ay hk;clear hk;go_wp2;go_ret3
   refine⟨mQ (t:=pq s.data.toList) ?_ ?_ ?_,hbb⟩<;>rw[HQ.out,aP (by rw[<- HN.out];exact of_decide_eq_false HK.out)]
   ·rfl
   ·exact HY.out.symm
   ·rfl
def OD:Array Value:=(jQ.map λx=>Value.string ⟨x.toArray⟩).toArray
theorem Ww (w:World):Calls Tryz.prog 195 #[] w λe w'=>e=.returned (.agg OD)/\Below w.heap.size w w':=by
 go_enter Tryz.func195,Tryz.ntmps195
 apply wp_seq_k
 intro K0 hK0;have HK:=ay hK0;clear hK0;go_wp2
 apply HK.out
 apply wp_seq_k
 intro K1 hK1
 apply wp_region_lit
 refine wpList_buildTo rfl 265 _ rfl (some 1) rfl OD (by kernel_rfl) ?_;refine wpList_store_rowTo rfl 265 _ _ rfl rfl w.heap.size OD rfl rfl 265 _ (aZ _ _) (by kernel_rfl) (by decide) (by kernel_rfl) ?_;rw[World.setRow_alloc_new]
 apply wpList_nil
 apply hK1
 go_wp2;refine o9 (v:=.agg OD) (results_cell_row rfl _ _ w.heap.size 265 _ (0,0) _ rfl (aZ _ _) Tryz.underlying265 rfl (by kernel_rfl)) rfl ⟨rfl,(bY _ _).alloc (bI _) _⟩
theorem head_cons (h:0<s.size):∃ r,s.data.toList=(s[0]'h) :: r:=by
 have hb:=Fh h
 cases hq:s.data.toList with
 | nil=>rw[hq] at hb;cases hb
 | cons c r =>
  rw[hq] at hb
  injection hb with hb
  rw[<- hb];exact⟨r,rfl⟩
def Cz (k:Nat):ByteArray:=⟨(jQ.getD k []).toArray⟩
theorem Kq (T:aH):∀ (l:List aH) (k:Nat),k<l.length->(∀ j,j<k->Lib.hasPrefix T (l.getD j [])=false)->Lib.hasPrefix T (l.getD k [])=true->l.find? (λx=>x.isPrefixOf T)=some (l.getD k [])
 | [],k,hk,_,_=>absurd hk (by simp)
 | x :: l,0,_,_,h=>by
  have h:x.isPrefixOf T=true:=h;simp[h]
 | x :: l,k+1,hk,hj,h=>by
  have h0:x.isPrefixOf T=false:=hj 0 (by omega);have:=Kq T l k (by simpa using hk) (λj hjk=>by simpa using hj (j+1) (by omega)) (by simpa using h);simp only[List.find?_cons,h0]
  simpa using this
theorem Wx (T:aH)(l:List aH)(hj:∀ j,j<l.length->Lib.hasPrefix T (l.getD j [])=false):l.find? (λx=>x.isPrefixOf T)=none:=by
 rw[List.find?_eq_none];intro x hx;obtain⟨j,hjl,e⟩:=List.mem_iff_getElem.1 hx;have:=hj j hjl;rw[Fb,AB hjl,Option.getD_some,e] at this;intro h;rw[Lib.hasPrefix] at this;rw[this] at h;cases h
theorem Sd:∀ k:Nat,k<22->∀ w:World,(Instr.index 265 (.agg OD) (.int .i64 k)).run Tryz.prog w=.ok (.string (Cz k)) w
 | 0,_=>λ_=>by kernel_rfl
 | 1,_=>λ_=>by kernel_rfl
 | 2,_=>λ_=>by kernel_rfl
 | 3,_=>λ_=>by kernel_rfl
 | 4,_=>λ_=>by kernel_rfl
 | 5,_=>λ_=>by kernel_rfl
 | 6,_=>λ_=>by kernel_rfl
 | 7,_=>λ_=>by kernel_rfl
 | 8,_=>λ_=>by kernel_rfl
 | 9,_=>λ_=>by kernel_rfl
 | 10,_=>λ_=>by kernel_rfl
 | 11,_=>λ_=>by kernel_rfl
 | 12,_=>λ_=>by kernel_rfl
 | 13,_=>λ_=>by kernel_rfl
 | 14,_=>λ_=>by kernel_rfl
 | 15,_=>λ_=>by kernel_rfl
 | 16,_=>λ_=>by kernel_rfl
 | 17,_=>λ_=>by kernel_rfl
 | 18,_=>λ_=>by kernel_rfl
 | 19,_=>λ_=>by kernel_rfl
 | 20,_=>λ_=>by kernel_rfl
 | 21,_=>λ_=>by kernel_rfl
 | n+22,h=>absurd h (by omega)
theorem OE (k:Nat):(Cz k).data.toList=jQ.getD k []:=rfl
theorem Zj:jQ.length=22:=rfl
theorem Wy (s:ByteArray)(w:World)(hs:s.size<=1099511627776) :
  Calls Tryz.prog 120 #[.string s] w λe w'=>e=.returned (Ws s (fP s.data.toList))/\Below w.heap.size w w':=by
 by_cases h0:0<s.size
 ·obtain⟨r,hr⟩:=head_cons h0
  have hI:(0:Int) < ↑s.size:=by omega
  have he:s.toList.isEmpty=false:=by rw[vM];exact fu (by omega)
  generalize hc:(s[0]'h0)=c at hr
  by_cases hl:fq c=true
  ·have hl':fq (s[0]'h0)=true:=by rw[hc];exact hl
   have hq:fP s.data.toList=pq s.data.toList:=by rw[hr,fP,bq hl]
   have HQ:=ay hq;have HW:=ay (Zi s);clear hq hr hc hl;go_enter Tryz.func120,Tryz.ntmps120;go_wp2_with (first|(go_at_call 191;refine(vR _ _).mono ?_;rintro e w1 ⟨rfl,rfl⟩)|(go_at_call 192;refine(HW.out _ hs).mono ?_;rintro e w1 ⟨he,hb⟩;rw[Ws] at he;subst he));go_ret3
   refine⟨mQ (t:=fP s.data.toList) ?_ ?_ ?_,hb⟩<;>rw[HQ.out]
  ·have hl':fq (s[0]'h0)=false:=by rw[hc];simpa using hl
   by_cases hd:bf c=true
   ·have hd':bf (s[0]'h0)=true:=by rw[hc];exact hd
    have hq:fP s.data.toList=rT s.data.toList:=by rw[hr,fP,aP hl,bq hd]
    have HQ:=ay hq;have HW:=ay (Sb s);clear hq hr hc hl hd;go_enter Tryz.func120,Tryz.ntmps120;go_wp2_with (first|(go_at_call 191;refine(vR _ _).mono ?_;rintro e w1 ⟨rfl,rfl⟩)|(go_at_call 193;refine(uR _ _).mono ?_;rintro e w1 ⟨rfl,rfl⟩)|(go_at_call 194;refine(HW.out _ hs).mono ?_;rintro e w1 ⟨he,rfl⟩;rw[Ws] at he;subst he));go_ret3
    refine⟨mQ (t:=fP s.data.toList) ?_ ?_ ?_,bY _ _⟩<;>rw[HQ.out]
   ·have hd':bf (s[0]'h0)=false:=by rw[hc];simpa using hd
    have hq:fP s.data.toList=EG s.data.toList:=by rw[hr,fP,aP hl,aP hd]
    have HQ:=ay hq;clear hq hr hc hl hd;go_enter Tryz.func120,Tryz.ntmps120;go_wp2_with (first|(go_at_call 191;refine(vR _ _).mono ?_;rintro e w1 ⟨rfl,rfl⟩)|(go_at_call 193;refine(uR _ _).mono ?_;rintro e w1 ⟨rfl,rfl⟩)|(go_at_call 195;refine(Ww _).mono ?_;rintro e w1 ⟨rfl,hb⟩))
    go_loop [6,29] (λx n=>∃ k:Nat,n=.int .i64 k/\k<=22/\∀ j,j<k->Lib.hasPrefix s.data.toList (jQ.getD j [])=false) (λ_ n=>22 - (intOf n).toNat)
    case atStart=>exact⟨0,rfl,by omega,λj hj=>absurd hj (by omega)⟩
    case round =>
     obtain⟨k,rfl,hk,hj⟩:=hrel;have HJ:=ay hj;have HP:=ay (Tryz.strings_HasPrefix s);clear hj
     by_cases hlt:k<22
     ·have hi:(k:Int)<22:=by omega
      have hx:=Sd k hlt
      cases hb2:Lib.hasPrefix s.data.toList (Cz k).data.toList with
      | true =>
       have hf:=Kq s.data.toList jQ k (by rw[Zj];exact hlt) HJ.out hb2
       have hq:fP s.data.toList=(4,(jQ.getD k []).length,0):=by rw[HQ.out,EG,uN,hf]
       have HB:=ay hb2;have RZ:=ay hq
       have hX:Cz k=s.extract 0 (jQ.getD k []).length:=by
        refine uM ?_;rw[jh,List.drop_zero,OE];exact(List.prefix_iff_eq_take.1 (List.isPrefixOf_iff_prefix.1 hb2))
       have HX:=ay hX;clear hb2 hf hq hX;go_wp2_with (go_at_call 189;refine(HP.out (Cz k) _).mono ?_;rw[HB.out];rintro e w2 ⟨rfl,rfl⟩);go_ret3
       refine⟨mQ (t:=fP s.data.toList) ?_ ?_ ?_,hb⟩<;>rw[RZ.out]
       ·rfl
       ·exact HX.out
       ·rfl
      | false =>
       have HB:=ay hb2;clear hb2;go_wp2_with (go_at_call 189;refine(HP.out (Cz k) _).mono ?_;rw[HB.out];rintro e w2 ⟨rfl,rfl⟩)
       go_round
       case rel =>
        refine⟨k+1,by go_num,by omega,λj hj=>?_⟩
        rcases Nat.lt_or_ge j k with h|h
        ·exact HJ.out j h
        ·have:j=k:=by omega
         subst this;exact HB.out
       case measure=>simp[intOf];omega
     ·have hk2:k=22:=by omega
      subst hk2
      have hq:fP s.data.toList=(0,0,20):=by rw[HQ.out,EG,uN,Wx _ _ (λj hj=>HJ.out j hj)]
      have RZ:=ay hq;clear hq hlt hk;go_wp2;go_ret3
      refine⟨mQ (t:=fP s.data.toList) ?_ ?_ ?_,hb⟩<;>rw[RZ.out]
      ·rfl
      ·exact xB s
      ·rfl
 ·have hz:s.size=0:=by omega
  have he:s.toList.isEmpty=true:=by rw[vM];exact kS hz
  have hn:s.data.toList=[]:=List.eq_nil_of_length_eq_zero (by rw[<- Lib.size_eq];exact hz)
  have hq:fP s.data.toList=(5,0,0):=by rw[hn,fP]
  have HQ:=ay hq;clear hq hn hz h0;go_enter Tryz.func120,Tryz.ntmps120;go_wp2;go_ret3
  refine⟨mQ (t:=fP s.data.toList) ?_ ?_ ?_,bY _ _⟩<;>rw[HQ.out]
  ·rfl
  ·exact xB s
  ·rfl
end Go.Proofs.YtmhdgeekclhbbaaGreatDoor

namespace Go.Proofs
theorem Tryz.Wz:(Tryz.prog.info? 131).map (λi=>(i.zero,i.size,i.bytes))=some (some (.agg #[.int .i64 0,.string ByteArray.empty,.string ByteArray.empty,.int .i64 0]),4,48):=by kernel_rfl
end Go.Proofs

namespace Go.Proofs.YtmhdgeekclhbbaaGreatDoor
open Go.RowKit
variable{w:World}
def Sg (acc:List Tok):Except (Nat × Nat) (List Tok)->Except (Nat × Nat) (List Tok)
 | .error e=>.error e
 | .ok l=>.ok (acc++l)
theorem Zk (x:Except (Nat × Nat) (List Tok)):Sg [] x=x:=by cases x<;>rfl
theorem WA (a b:List Tok)(x:Except (Nat × Nat) (List Tok)):Sg a (Sg b x)=Sg (a++b) x:=by
 cases x
 ·rfl
 ·simp[Sg]
theorem Zl (n:Nat)(T:aH)(p k:Nat)(t:Nat × Nat × Nat)(hk:cK false T=k)(ht:fP (T.drop k)=t)(he:t.2.2≠0):kZ (n+1) T p=.error (t.2.2,p+k):=by
 subst hk ht;rw[kZ];rw[bq he]
theorem Zm (n:Nat)(T:aH)(p k:Nat)(t:Nat × Nat × Nat)(hk:cK false T=k)(ht:fP (T.drop k)=t)(he:t.2.2=0)(h5:t.1=5):kZ (n+1) T p=.ok [⟨5,T.take k,[],p+k⟩]:=by
 subst hk ht;rw[kZ];rw[aP (by omega),bq h5]
theorem WB (n:Nat)(T:aH)(p k:Nat)(t:Nat × Nat × Nat)(hk:cK false T=k)(ht:fP (T.drop k)=t)(he:t.2.2=0)(h5:t.1≠5) :
  kZ (n+1) T p=Sg [⟨t.1,T.take k,(T.drop k).take t.2.1,p+k⟩] (kZ n (T.drop (k+t.2.1)) (p+k+t.2.1)):=by
 subst hk ht;rw[kZ];rw[aP (by omega),aP h5,List.drop_drop]
 cases kZ n _ _<;>rfl
theorem Si {g:Nat}{x y z u:Value}(h0:w.cell? ⟨g,0,none⟩=some x)(h1:w.cell? ⟨g,1,none⟩=some y)(h2:w.cell? ⟨g,2,none⟩=some z)(h3:w.cell? ⟨g,3,none⟩=some u) :
  ∀ j v,[x,y,z,u][j]?=some v->w.cell? ((⟨g,0,none⟩:Addr).add j)=some v:=by
 intro j v hj
 match j,hj with
 | 0,hj=>simp at hj;subst hj;simpa [Addr.add] using h0
 | 1,hj=>simp at hj;subst hj;simpa [Addr.add] using h1
 | 2,hj=>simp at hj;subst hj;simpa [Addr.add] using h2
 | 3,hj=>simp at hj;subst hj;simpa [Addr.add] using h3
theorem own_below {w':World}{base e sz n:Nat}{v:Value}{xs:List Value}(h:w.ownsRow base e sz v n xs)(hb:Below w.heap.size w w'):w'.ownsRow base e sz v n xs:=by
 refine⟨h.1,?_⟩
 rcases h.2 with hn|⟨g,cap,cur,hv,hg,hh,hr⟩
 ·exact .inl hn
 ·exact .inr ⟨g,cap,cur,hv,hg,by rw[hb.block g (bU hh).1];exact hh,hr⟩
theorem WC (T:aH)(h:(fP T).1=5):(fP T).2.1=0:=by
 cases T with
 | nil=>rfl
 | cons c r =>
  exfalso
  rw[fP] at h
  split at h
  ·rw[pq] at h
   split at h
   ·cases h
   ·split at h<;>cases h
  ·split at h
   ·rw[rT] at h
    split at h<;>cases h
   ·rw[EG] at h
    split at h<;>cases h
theorem WE {kd pk:Nat}{l t:aH}{y z:ByteArray}{a:Int}(hy:y.data.toList=l)(hz:z.data.toList=t)(ha:a=pk) :
  [Value.int .i64 kd,.string y,.string z,.int .i64 a]=dW ⟨kd,l,t,pk⟩:=by
 subst hy hz ha
 rfl
def U6 (S:aH)(w:World)(e:Ending)(w':World):Prop :=
 Below w.heap.size w w'/\match bV S with
 | .ok l=>∃ v,e=.returned (.tuple #[v,.agg #[.int .i64 0,.int .i64 0]])/\Rec w'.heap.size w' v 4 dW l
 | .error x=>e=.returned (.tuple #[.slice none 0 0,.agg #[.int .i64 x.1,.int .i64 x.2]])
theorem Mg (s:ByteArray)(w:World)(hs:s.size<=1099511627776):Calls Tryz.prog 69 #[.string s] w (U6 s.data.toList w):=by
 obtain⟨i0,hi,hz0,hz1,hz2⟩:=info_parts Tryz.Wz
 by_cases hbig:65536<s.size
 ·have hI:(65536:Int) < ↑s.size:=by omega
  have hq:bV s.data.toList=.error (11,0):=by rw[bV,bq (by rw[<- Lib.size_eq];exact hbig)]
  have HQ:=ay hq;clear hq;go_enter Tryz.func69,Tryz.ntmps69;go_wp2;refine o9 (v:=.tuple #[.slice none 0 0,.agg #[.int .i64 11,.int .i64 0]]) (by simp[results,Tryz.results69,go_sem]) rfl ?_;refine⟨(bY _ _).alloc (bI _) _,?_⟩;rw[HQ.out]
  rfl
 ·have hI:¬ (65536:Int) < ↑s.size:=by omega
  have hq:bV s.data.toList=kZ (s.size+1) s.data.toList 0:=by rw[bV,aP (by rw[<- Lib.size_eq];exact hbig),<- Lib.size_eq]
  have HQ:=ay hq;clear hq;go_enter Tryz.func69,Tryz.ntmps69;go_wp2;generalize hw1:w.alloc (.cells #[.int .i64 0,.int .i64 0] 71)=w1
  have hb1:Below w.heap.size w w1:=by rw[<- hw1];exact(bY _ _).alloc (bI _) _
  have hf1:w1.heap[w.heap.size]?=some (.cells #[.int .i64 0,.int .i64 0] 71 (0,0)):=by rw[<- hw1];exact aZ _ _
  have hlt1:w.heap.size<w1.heap.size:=by rw[<- hw1];simp
  clear hw1
  go_loopw [4,5] (λout at0 wr=>∃ (p m:Nat) (acc:List Tok),at0=.int .i64 p/\p<=s.size/\s.size<p+m/\kZ (s.size+1) s.data.toList 0=Sg acc (kZ m (s.data.toList.drop p) p)/\acc.length<=p /\
   wr.ownsRow w1.heap.size 131 4 out acc.length (acc.flatMap dW)/\Below w1.heap.size w1 wr) (λ_ at0 _=>s.size - (intOf at0).toNat)
  case atStart=>exact⟨0,s.size+1,[],rfl,mD _,by omega,(Zk _).symm,bI _,World.ownsRow_nil _ _ _ _,bY _ _⟩
  case round =>
   obtain⟨p,m,acc,rfl,hp,hm,hl,hal,hown,hb⟩:=hrel;have hz:=hb.size
   obtain⟨m,rfl⟩:∃ m',m=m'+1:=⟨m - 1,by omega⟩
   have hxl:(s.extract p s.size).data.toList=s.data.toList.drop p:=qx s p
   have hxz:(s.extract p s.size).size<=1099511627776:=by rw[ByteArray.size_extract];omega
   have hbt:=OB (s.extract p s.size) wr hxz;generalize hk:cK false (s.extract p s.size).data.toList=k at hbt
   have hkl:k<=s.size - p:=by rw[<- hk,hxl];have:=qy false (s.data.toList.drop p);rwa [zh,<- Lib.size_eq] at this
   have hys:((s.extract p s.size).extract 0 k).size=k:=by rw[ByteArray.size_extract,ByteArray.size_extract];omega
   have hyl:((s.extract p s.size).extract 0 k).data.toList=(s.data.toList.drop p).take k:=by rw[jh,List.drop_zero,hxl]
   generalize hy:(s.extract p s.size).extract 0 k=y at hbt hys hyl;have hul:(s.extract (p+k) s.size).data.toList=s.data.toList.drop (p+k):=qx s _
   have huz:(s.extract (p+k) s.size).size<=1099511627776:=by rw[ByteArray.size_extract];omega
   have htk:=λw=>Wy (s.extract (p+k) s.size) w huz
   have hpk:(p:Int)+(k:Int)<=↑s.size:=by omega
   generalize ht:fP (s.extract (p+k) s.size).data.toList=t at htk
   have htl:t.2.1<=s.size - (p+k):=by rw[<- ht,hul];have:=AQ (s.data.toList.drop (p+k));rwa [zh,<- Lib.size_eq] at this
   obtain⟨kd,n,er⟩:=t;simp only at htl
   have hzs:((s.extract (p+k) s.size).extract 0 n).size=n:=by rw[ByteArray.size_extract,ByteArray.size_extract];omega
   have hzl:((s.extract (p+k) s.size).extract 0 n).data.toList=(s.data.toList.drop (p+k)).take n:=by rw[jh,List.drop_zero,hul]
   rw[hxl] at hk;rw[hul,<- List.drop_drop] at ht;have HB:=ay hbt;have HT:=ay htk;have HYL:=ay hyl;have HZL:=ay hzl;have HTL:=ay ht;have HK:=ay hk;have HL:=ay hl;have HZS:=ay hzs;clear hbt htk hy hyl hul hxl hk hl huz hxz ht hzl hzs;go_wp2_with (first|(go_at_call 119;refine HB.out.mono ?_;rintro e w2 ⟨rfl,hb2⟩)|(go_at_call 120;refine(HT.out _).mono ?_));rintro e w3 ⟨he,hb3⟩;obtain rfl:e=.returned (.tuple #[.int .i64 kd,.string ((s.extract (p+k) s.size).extract 0 n),.int .i64 er]):=he;have ajL:=hb3.size;have ajM:=hb2.size;have xC:Below w1.heap.size w1 w3:=(hb.trans (hb2.mono hz)).trans (hb3.mono (by omega));have lM:=own_below (own_below hown hb2) hb3
   have hf3:w3.heap[w.heap.size]?=some (.cells #[.int .i64 0,.int .i64 0] 71 (0,0)):=by rw[xC.block _ hlt1];exact hf1
   have hbw:Below w.heap.size w w3:=hb1.trans (xC.mono (by omega));clear hb2 hb3 hown hb
   by_cases her:er=0
   ·subst her
    generalize hzz:(s.extract (p+k) s.size).extract 0 n=z;have HZZ:=ay hzz
    have hzn:z.size=n:=by rw[<- hzz];exact HZS.out
    have agB:z.data.toList=(s.data.toList.drop (p+k)).take n:=by rw[<- hzz];exact HZL.out
    have aib:=ay agB;clear hzz agB;go_wp2_with (at_builtin;refine wpList_append_own _ rfl _ _ 78 rfl w1.heap.size 131 i0 (.agg #[.int .i64 0,.string ByteArray.empty,.string ByteArray.empty,.int .i64 0]) 4 48 Tryz.underlying78 hi hz0 hz1 hz2 rfl (by decide) _ _ _ rfl (lM.alloc _) ⟨w3.heap.size,0,none⟩ 1 1 [.int .i64 kd,.string y,.string z,.int .i64 (p+k)] rfl rfl ?c1 ?c2 ?c3 ?c4 ?c5 ?_)
    case c1=>exact Si (by go_simp) (by go_simp) (by go_simp) (by go_simp)
    case c2=>intro u hu;simp at hu;rcases hu with rfl|rfl|rfl|rfl<;>rfl
    case c3=>unfold maxLen;omega
    case c4=>omega
    case c5=>simp;omega
    intro v' w4 hown' hgrow _;have hb4:Below w1.heap.size w1 w4:=(xC.alloc (by omega) _).grown hgrow (by simp;omega) (λq hq=>(lM.lt q hq).1);have Mh:=jf (lM.alloc _) hgrow ((iB w3 _ _ (by omega)).trans hf3) (by decide);have hcl:=WE (kd:=kd) (pk:=p+k) HYL.out aib.out (by rfl:((p:Int)+(k:Int))=((p+k:Nat):Int));rw[hcl] at hown'
    have Bg:w4.ownsRow w1.heap.size 131 4 v' (acc++[Tok.mk kd ((s.data.toList.drop p).take k) ((s.data.toList.drop (p+k)).take n) (p+k)]).length ((acc++[Tok.mk kd ((s.data.toList.drop p).take k) ((s.data.toList.drop (p+k)).take n) (p+k)]).flatMap dW):=by
     rw[abo,bQ];exact hown'
    have ajN:=hb4.size;have uE:Below w.heap.size w w4:=hb1.trans (hb4.mono (by omega));clear hgrow hown' hcl lM xC hbw
    by_cases h5:kd=5
    ·have lu:((kd:Int) == 5)=true:=by rw[h5];rfl
     have hq:=HL.out;rw[Zm _ _ _ _ _ HK.out HTL.out rfl h5] at hq
     have hn0:n=0:=by have:=WC ((s.data.toList.drop p).drop k) (by rw[HTL.out];exact h5);rw[HTL.out] at this;exact this
     rw[hn0,List.take_zero,h5] at Bg;have RZ:=ay hq;clear hq h5 hn0
     have f0:w4.cell? ⟨w.heap.size,0,none⟩=some (.int .i64 0):=by rw[bg Mh];rfl
     have f1:w4.cell? ⟨w.heap.size,1,none⟩=some (.int .i64 0):=by rw[bg Mh];rfl
     have z0:∀ j,w4.frozen? ⟨w.heap.size,j,none⟩=false:=by intro j;simp[World.frozen?,Mh]
     go_wp2;refine o9 (v:=.tuple #[v',.agg #[.int .i64 0,.int .i64 0]]) (by simp[results,Tryz.results69,go_sem,f0,f1]) rfl ?_;refine⟨(uE.setCell (bI _) _).setCell (bI _) _,?_⟩;rw[HQ.out,RZ.out];exact⟨_,rfl,Sl.fZ (ownsRow_setCell_below (ownsRow_setCell_below Bg hlt1 _) hlt1 _)⟩
    ·have lu:((kd:Int) == 5)=false:=by rw[<- wT,beq_iff_eq];omega
     have hq:=HL.out;rw[WB _ _ _ _ _ HK.out HTL.out rfl h5,WA,List.drop_drop,List.drop_drop,<- wU p k] at hq
     have hn0:0<n:=by have:=AU ((s.data.toList.drop p).drop k) (by rw[HTL.out]) (by rw[HTL.out];exact h5);rw[HTL.out] at this;exact this
     have RZ:=ay hq;clear hq;go_wp2
     go_roundw
     case rel=>exact⟨p+k+n,m,_,by go_num,by omega,by omega,RZ.out,by rw[bQ];simp;omega,Bg,hb4⟩
     case measure=>simp[intOf];omega
   ·have hne:((er:Int) == 0)=false:=by rw[<- wT,beq_iff_eq];omega
    have f0:w3.cell? ⟨w.heap.size,0,none⟩=some (.int .i64 0):=by rw[bg hf3];rfl
    have f1:w3.cell? ⟨w.heap.size,1,none⟩=some (.int .i64 0):=by rw[bg hf3];rfl
    have z0:∀ j,w3.frozen? ⟨w.heap.size,j,none⟩=false:=by intro j;simp[World.frozen?,hf3]
    have hq:=HL.out;rw[Zl _ _ _ _ _ HK.out HTL.out her] at hq;have RZ:=ay hq;clear hq;go_wp2;refine o9 (v:=.tuple #[.slice none 0 0,.agg #[.int .i64 er,.int .i64 (p+k)]]) (by simp[results,Tryz.results69,go_sem,f0,f1]) rfl ?_;refine⟨(hbw.setCell (bI _) _).setCell (bI _) _,?_⟩;rw[HQ.out,RZ.out]
    rfl
