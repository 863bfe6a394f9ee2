/- Walks and plain laws: Shelf, LexW1, LexW2. -/
import Derived.Shelf.Spec.SearchS
import Derived.Shelf.Strings.Builder1
import Derived.Shelf.Strings.Trim
import Derived.Shelf.Small.Utf8
import Derived.Shelf.Small.Bits
import Derived.Shelf.Small.Strs
import Derived.Shelf.Small.Wraps
import Derived.Shelf.Strings.BuilderF
import Derived.Shelf.Strings.BuilderK
import Derived.Shelf.Strconv.Itoa0
import Derived.Shelf.Strconv.Itoa1
import Derived.Shelf.LaysM
import Derived.Shelf.Strconv.Itoa2
import Derived.Shelf.Strconv.Itoa3
import Derived.Shelf.Strings.Search1
import Derived.Shelf.Strings.Search2
import Derived.Shelf.Strings.Search3
import Derived.Shelf.Strings.Shaped
import Derived.Shelf.Sort.Plain
import Derived.Shelf.Strings.Prefix
import Derived.Shelf.Strings.Runes
import Derived.Shelf.Strings.AsciiSet
import Derived.Shelf.Unicode.DecodeSlow
import Derived.Shelf.Slices.Turned
import Derived.Ground.Names2Prog
import Derived.Shelf.Slices.Clone
import Derived.Shelf.Slices.CompactS
import Derived.Shelf.Slices.Cells
import Derived.Shelf.Slices.In.SortNone
import Derived.Test.YtbodlpoomfefcaaGreatDoorProg
import Derived.Test.YtbodlpoomfefcaaGreatDoorA01
import Derived.Shelf.Strings.SlTrimAscii
import Derived.Lib.SlTrimSet
set_option maxHeartbeats 16000000
set_option maxRecDepth 100000
set_option linter.unusedVariables false
set_option linter.unusedSimpArgs false
namespace Go.Proofs
open Go.Shelf
def Tryz.lays169_ren:Go.Shelf.Ren:=⟨fun|169=>48|n=>n,fun|70=>97|9=>9|0=>0|72=>100|37=>98|127=>165|3=>3|5=>5|n=>n,fun|n=>n⟩
theorem Tryz.lays169:Go.Proofs.Lays.n169 Tryz.prog Tryz.lays169_ren:={
 mixed:=by kernel_rfl
 f169:=Tryz.func48.trans (congrArg some (by kernel_rfl))
 t0:=Tryz.underlying0
 a0:=Tryz.isAgg0
 z0:=Tryz.sizeOf0
 v0:=Tryz.zeroValue0
 t3:=Tryz.underlying3
 a3:=Tryz.isAgg3
 z3:=Tryz.sizeOf3
 v3:=Tryz.zeroValue3
 t9:=Tryz.underlying9
 a9:=Tryz.isAgg9
 z9:=Tryz.sizeOf9
 v9:=Tryz.zeroValue9
 t37:=Tryz.underlying98
 a37:=Tryz.isAgg98
 z37:=Tryz.sizeOf98
 v37:=Tryz.zeroValue98
 t70:=Tryz.underlying97
 a70:=Tryz.isAgg97
 z70:=Tryz.sizeOf97
 v70:=Tryz.zeroValue97
 t72:=Tryz.underlying100
 a72:=Tryz.isAgg100
 z72:=Tryz.sizeOf100
 v72:=Tryz.zeroValue100
 t127:=Tryz.underlying165
 a127:=Tryz.isAgg165
 z127:=Tryz.sizeOf165
 v127:=Tryz.zeroValue165 }
theorem Tryz.Builder_Extra_169:Builder.Extra Tryz.prog Tryz.lays169_ren:={
 sizeBuilder:=by kernel_rfl
 liesBuilder:=by kernel_rfl
 t5:=Tryz.underlying5
 a5:=Tryz.isAgg5
 z5:=Tryz.sizeOf5
 v5:=Tryz.zeroValue5
 infoByte:=by kernel_rfl
 cellsByte:=by kernel_rfl
 sizeByte:=by kernel_rfl
 neB5:=by decide }
def Tryz.lays161_ren:Go.Shelf.Ren:=⟨fun|161=>205|231=>198|227=>200|233=>201|235=>203|228=>255|197=>256|151=>257|260=>282|152=>283|137=>308|119=>309|224=>287|225=>286|217=>285|266=>310|n=>n,fun|9=>9|4=>4|3=>3|5=>5|117=>271|116=>270|0=>0|124=>274|105=>307|21=>21|119=>343|46=>276|139=>346|138=>345|n=>n,fun|3=>2|4=>3|n=>n⟩
theorem Tryz.lays161:Go.Proofs.Lays.n161 Tryz.prog Tryz.lays161_ren:={
 mixed:=by kernel_rfl
 f119:=Tryz.func309.trans (congrArg some (by kernel_rfl))
 f137:=Tryz.func308.trans (congrArg some (by kernel_rfl))
 f151:=Tryz.func257.trans (congrArg some (by kernel_rfl))
 f152:=Tryz.func283.trans (congrArg some (by kernel_rfl))
 f161:=Tryz.func205.trans (congrArg some (by kernel_rfl))
 f197:=Tryz.func256.trans (congrArg some (by kernel_rfl))
 f217:=Tryz.func285.trans (congrArg some (by kernel_rfl))
 f224:=Tryz.func287.trans (congrArg some (by kernel_rfl))
 f225:=Tryz.func286.trans (congrArg some (by kernel_rfl))
 f227:=Tryz.func200.trans (congrArg some (by kernel_rfl))
 f228:=Tryz.func255.trans (congrArg some (by kernel_rfl))
 f231:=Tryz.func198.trans (congrArg some (by kernel_rfl))
 f233:=Tryz.func201.trans (congrArg some (by kernel_rfl))
 f235:=Tryz.func203.trans (congrArg some (by kernel_rfl))
 f260:=Tryz.func282.trans (congrArg some (by kernel_rfl))
 f266:=Tryz.func310.trans (congrArg some (by kernel_rfl))
 t0:=Tryz.underlying0
 a0:=Tryz.isAgg0
 z0:=Tryz.sizeOf0
 v0:=Tryz.zeroValue0
 t3:=Tryz.underlying3
 a3:=Tryz.isAgg3
 z3:=Tryz.sizeOf3
 v3:=Tryz.zeroValue3
 t4:=Tryz.underlying4
 a4:=Tryz.isAgg4
 z4:=Tryz.sizeOf4
 v4:=Tryz.zeroValue4
 t5:=Tryz.underlying5
 a5:=Tryz.isAgg5
 z5:=Tryz.sizeOf5
 v5:=Tryz.zeroValue5
 t9:=Tryz.underlying9
 a9:=Tryz.isAgg9
 z9:=Tryz.sizeOf9
 v9:=Tryz.zeroValue9
 t21:=Tryz.underlying21
 a21:=Tryz.isAgg21
 z21:=Tryz.sizeOf21
 v21:=Tryz.zeroValue21
 t46:=Tryz.underlying276
 a46:=Tryz.isAgg276
 z46:=Tryz.sizeOf276
 v46:=Tryz.zeroValue276
 t105:=Tryz.underlying307
 a105:=Tryz.isAgg307
 z105:=Tryz.sizeOf307
 v105:=Tryz.zeroValue307
 t116:=Tryz.underlying270
 a116:=Tryz.isAgg270
 z116:=Tryz.sizeOf270
 t117:=Tryz.underlying271
 a117:=Tryz.isAgg271
 z117:=Tryz.sizeOf271
 v117:=Tryz.zeroValue271
 t119:=Tryz.underlying343
 a119:=Tryz.isAgg343
 z119:=Tryz.sizeOf343
 t124:=Tryz.underlying274
 a124:=Tryz.isAgg274
 z124:=Tryz.sizeOf274
 v124:=Tryz.zeroValue274
 t138:=Tryz.underlying345
 a138:=Tryz.isAgg345
 z138:=Tryz.sizeOf345
 v138:=Tryz.zeroValue345
 t139:=Tryz.underlying346
 a139:=Tryz.isAgg346
 z139:=Tryz.sizeOf346
 v139:=Tryz.zeroValue346
 g3:=by kernel_rfl
 g4:=by kernel_rfl }
def Tryz.lays162_ren:Go.Shelf.Ren:=⟨fun|162=>172|232=>199|227=>200|234=>202|236=>204|228=>255|271=>258|151=>257|120=>284|197=>256|152=>283|260=>282|137=>308|119=>309|224=>287|225=>286|217=>285|266=>310|n=>n,fun|9=>9|4=>4|3=>3|5=>5|117=>271|116=>270|0=>0|124=>274|21=>21|105=>307|46=>276|119=>343|139=>346|138=>345|n=>n,fun|3=>2|4=>3|n=>n⟩
theorem Tryz.lays162:Go.Proofs.Lays.n162 Tryz.prog Tryz.lays162_ren:={
 mixed:=by kernel_rfl
 f119:=Tryz.func309.trans (congrArg some (by kernel_rfl))
 f120:=Tryz.func284.trans (congrArg some (by kernel_rfl))
 f137:=Tryz.func308.trans (congrArg some (by kernel_rfl))
 f151:=Tryz.func257.trans (congrArg some (by kernel_rfl))
 f152:=Tryz.func283.trans (congrArg some (by kernel_rfl))
 f162:=Tryz.func172.trans (congrArg some (by kernel_rfl))
 f197:=Tryz.func256.trans (congrArg some (by kernel_rfl))
 f217:=Tryz.func285.trans (congrArg some (by kernel_rfl))
 f224:=Tryz.func287.trans (congrArg some (by kernel_rfl))
 f225:=Tryz.func286.trans (congrArg some (by kernel_rfl))
 f227:=Tryz.func200.trans (congrArg some (by kernel_rfl))
 f228:=Tryz.func255.trans (congrArg some (by kernel_rfl))
 f232:=Tryz.func199.trans (congrArg some (by kernel_rfl))
 f234:=Tryz.func202.trans (congrArg some (by kernel_rfl))
 f236:=Tryz.func204.trans (congrArg some (by kernel_rfl))
 f260:=Tryz.func282.trans (congrArg some (by kernel_rfl))
 f266:=Tryz.func310.trans (congrArg some (by kernel_rfl))
 f271:=Tryz.func258.trans (congrArg some (by kernel_rfl))
 t0:=Tryz.underlying0
 a0:=Tryz.isAgg0
 z0:=Tryz.sizeOf0
 v0:=Tryz.zeroValue0
 t3:=Tryz.underlying3
 a3:=Tryz.isAgg3
 z3:=Tryz.sizeOf3
 v3:=Tryz.zeroValue3
 t4:=Tryz.underlying4
 a4:=Tryz.isAgg4
 z4:=Tryz.sizeOf4
 v4:=Tryz.zeroValue4
 t5:=Tryz.underlying5
 a5:=Tryz.isAgg5
 z5:=Tryz.sizeOf5
 v5:=Tryz.zeroValue5
 t9:=Tryz.underlying9
 a9:=Tryz.isAgg9
 z9:=Tryz.sizeOf9
 v9:=Tryz.zeroValue9
 t21:=Tryz.underlying21
 a21:=Tryz.isAgg21
 z21:=Tryz.sizeOf21
 v21:=Tryz.zeroValue21
 t46:=Tryz.underlying276
 a46:=Tryz.isAgg276
 z46:=Tryz.sizeOf276
 v46:=Tryz.zeroValue276
 t105:=Tryz.underlying307
 a105:=Tryz.isAgg307
 z105:=Tryz.sizeOf307
 v105:=Tryz.zeroValue307
 t116:=Tryz.underlying270
 a116:=Tryz.isAgg270
 z116:=Tryz.sizeOf270
 t117:=Tryz.underlying271
 a117:=Tryz.isAgg271
 z117:=Tryz.sizeOf271
 v117:=Tryz.zeroValue271
 t119:=Tryz.underlying343
 a119:=Tryz.isAgg343
 z119:=Tryz.sizeOf343
 t124:=Tryz.underlying274
 a124:=Tryz.isAgg274
 z124:=Tryz.sizeOf274
 v124:=Tryz.zeroValue274
 t138:=Tryz.underlying345
 a138:=Tryz.isAgg345
 z138:=Tryz.sizeOf345
 v138:=Tryz.zeroValue345
 t139:=Tryz.underlying346
 a139:=Tryz.isAgg346
 z139:=Tryz.sizeOf346
 v139:=Tryz.zeroValue346
 g3:=by kernel_rfl
 g4:=by kernel_rfl }
open Go.RowKit in
theorem Tryz.strings_TrimRight_one (s:ByteArray)(c:UInt8)(hc:c.toNat<128)(w:World)(hs:s.size≤9223372036854775807) :
  Calls Tryz.prog 172 #[.string s,.string ⟨#[c]⟩] w fun e w'=>e=.returned (.string ⟨(Lib.trimRightB s.data.toList c).toArray⟩)∧w'=w:=Any.strings_TrimRight_one Tryz.lays162 s c hc w hs
def Tryz.lays160_ren:Go.Shelf.Ren:=⟨fun|160=>130|232=>199|231=>198|227=>200|234=>202|233=>201|236=>204|235=>203|228=>255|271=>258|151=>257|197=>256|120=>284|152=>283|260=>282|137=>308|119=>309|224=>287|225=>286|217=>285|266=>310|n=>n,fun|9=>9|4=>4|3=>3|5=>5|117=>271|116=>270|0=>0|124=>274|21=>21|105=>307|46=>276|119=>343|139=>346|138=>345|n=>n,fun|3=>2|4=>3|n=>n⟩
theorem Tryz.lays160:Go.Proofs.Lays.n160 Tryz.prog Tryz.lays160_ren:={
 mixed:=by kernel_rfl
 f119:=Tryz.func309.trans (congrArg some (by kernel_rfl))
 f120:=Tryz.func284.trans (congrArg some (by kernel_rfl))
 f137:=Tryz.func308.trans (congrArg some (by kernel_rfl))
 f151:=Tryz.func257.trans (congrArg some (by kernel_rfl))
 f152:=Tryz.func283.trans (congrArg some (by kernel_rfl))
 f160:=Tryz.func130.trans (congrArg some (by kernel_rfl))
 f197:=Tryz.func256.trans (congrArg some (by kernel_rfl))
 f217:=Tryz.func285.trans (congrArg some (by kernel_rfl))
 f224:=Tryz.func287.trans (congrArg some (by kernel_rfl))
 f225:=Tryz.func286.trans (congrArg some (by kernel_rfl))
 f227:=Tryz.func200.trans (congrArg some (by kernel_rfl))
 f228:=Tryz.func255.trans (congrArg some (by kernel_rfl))
 f231:=Tryz.func198.trans (congrArg some (by kernel_rfl))
 f232:=Tryz.func199.trans (congrArg some (by kernel_rfl))
 f233:=Tryz.func201.trans (congrArg some (by kernel_rfl))
 f234:=Tryz.func202.trans (congrArg some (by kernel_rfl))
 f235:=Tryz.func203.trans (congrArg some (by kernel_rfl))
 f236:=Tryz.func204.trans (congrArg some (by kernel_rfl))
 f260:=Tryz.func282.trans (congrArg some (by kernel_rfl))
 f266:=Tryz.func310.trans (congrArg some (by kernel_rfl))
 f271:=Tryz.func258.trans (congrArg some (by kernel_rfl))
 t0:=Tryz.underlying0
 a0:=Tryz.isAgg0
 z0:=Tryz.sizeOf0
 v0:=Tryz.zeroValue0
 t3:=Tryz.underlying3
 a3:=Tryz.isAgg3
 z3:=Tryz.sizeOf3
 v3:=Tryz.zeroValue3
 t4:=Tryz.underlying4
 a4:=Tryz.isAgg4
 z4:=Tryz.sizeOf4
 v4:=Tryz.zeroValue4
 t5:=Tryz.underlying5
 a5:=Tryz.isAgg5
 z5:=Tryz.sizeOf5
 v5:=Tryz.zeroValue5
 t9:=Tryz.underlying9
 a9:=Tryz.isAgg9
 z9:=Tryz.sizeOf9
 v9:=Tryz.zeroValue9
 t21:=Tryz.underlying21
 a21:=Tryz.isAgg21
 z21:=Tryz.sizeOf21
 v21:=Tryz.zeroValue21
 t46:=Tryz.underlying276
 a46:=Tryz.isAgg276
 z46:=Tryz.sizeOf276
 v46:=Tryz.zeroValue276
 t105:=Tryz.underlying307
 a105:=Tryz.isAgg307
 z105:=Tryz.sizeOf307
 v105:=Tryz.zeroValue307
 t116:=Tryz.underlying270
 a116:=Tryz.isAgg270
 z116:=Tryz.sizeOf270
 t117:=Tryz.underlying271
 a117:=Tryz.isAgg271
 z117:=Tryz.sizeOf271
 v117:=Tryz.zeroValue271
 t119:=Tryz.underlying343
 a119:=Tryz.isAgg343
 z119:=Tryz.sizeOf343
 t124:=Tryz.underlying274
 a124:=Tryz.isAgg274
 z124:=Tryz.sizeOf274
 v124:=Tryz.zeroValue274
 t138:=Tryz.underlying345
 a138:=Tryz.isAgg345
 z138:=Tryz.sizeOf345
 v138:=Tryz.zeroValue345
 t139:=Tryz.underlying346
 a139:=Tryz.isAgg346
 z139:=Tryz.sizeOf346
 v139:=Tryz.zeroValue346
 g3:=by kernel_rfl
 g4:=by kernel_rfl }
def Tryz.lays103_ren:Go.Shelf.Ren:=⟨fun|103=>129|210=>197|206=>254|n=>n,fun|9=>9|4=>4|24=>52|3=>3|n=>n,fun|n=>n⟩
theorem Tryz.lays103:Go.Proofs.Lays.n103 Tryz.prog Tryz.lays103_ren:={
 mixed:=by kernel_rfl
 f103:=Tryz.func129.trans (congrArg some (by kernel_rfl))
 f206:=Tryz.func254.trans (congrArg some (by kernel_rfl))
 f210:=Tryz.func197.trans (congrArg some (by kernel_rfl))
 t3:=Tryz.underlying3
 a3:=Tryz.isAgg3
 z3:=Tryz.sizeOf3
 v3:=Tryz.zeroValue3
 t4:=Tryz.underlying4
 a4:=Tryz.isAgg4
 z4:=Tryz.sizeOf4
 v4:=Tryz.zeroValue4
 t9:=Tryz.underlying9
 a9:=Tryz.isAgg9
 z9:=Tryz.sizeOf9
 v9:=Tryz.zeroValue9
 t24:=Tryz.underlying52
 a24:=Tryz.isAgg52
 z24:=Tryz.sizeOf52
 v24:=Tryz.zeroValue52 }
open Go.RowKit in
theorem Tryz.strings_CutPrefix (s p:ByteArray)(w:World) :
  Calls Tryz.prog 129 #[.string s,.string p] w fun e w'=>e=.returned (.tuple #[.string ⟨(Lib.trimPrefix s.data.toList p.data.toList).toArray⟩,.bool (Lib.hasPrefix s.data.toList p.data.toList)])∧w'=w:=Any.strings_CutPrefix Tryz.lays103 s p w
def Tryz.lays121_ren:Go.Shelf.Ren:=⟨fun|121=>126|214=>196|n=>n,fun|4=>4|9=>9|n=>n,fun|n=>n⟩
theorem Tryz.lays121:Go.Proofs.Lays.n121 Tryz.prog Tryz.lays121_ren:={
 mixed:=by kernel_rfl
 f121:=Tryz.func126.trans (congrArg some (by kernel_rfl))
 f214:=Tryz.func196.trans (congrArg some (by kernel_rfl))
 t4:=Tryz.underlying4
 a4:=Tryz.isAgg4
 z4:=Tryz.sizeOf4
 v4:=Tryz.zeroValue4
 t9:=Tryz.underlying9
 a9:=Tryz.isAgg9
 z9:=Tryz.sizeOf9
 v9:=Tryz.zeroValue9 }
open Go.RowKit in
theorem Tryz.strconv_FormatBool (b:Bool)(w:World) :
  Calls Tryz.prog 126 #[.bool b] w fun e w'=>e=.returned (.string ⟨(Lib.formatBool b).toArray⟩)∧w'=w:=Any.strconv_FormatBool Tryz.lays121 b w
open Go.RowKit in
theorem Tryz.Builder_String_any_k (B b:Nat)(l:List UInt8)(w:World)(h:Lib.IsBuilderF 100 5 B b (Lib.byteCells l) w)(hBw:B≤w.heap.size) :
  Calls Tryz.prog 48 #[.pointer (some ⟨b,0,none⟩)] w fun e w'=>e=.returned (.string ⟨l.toArray⟩)∧(Lib.IsBuilderF 100 5 B b (Lib.byteCells l) w'∧Below B w w'∧Lib.OthersKept 5 (some b) w w'):=Any.Builder_String_any_k Tryz.lays169 Tryz.Builder_Extra_169 B b l w h hBw
def Tryz.lays171_ren:Go.Shelf.Ren:=⟨fun|171=>92|243=>151|246=>221|283=>266|284=>267|285=>268|286=>269|129=>290|317=>289|318=>291|319=>292|320=>293|337=>312|338=>313|n=>n,fun|3=>3|9=>9|2=>2|4=>4|171=>315|0=>0|53=>212|37=>98|5=>5|173=>318|212=>331|51=>275|20=>20|213=>332|46=>276|232=>357|233=>358|n=>n,fun|17=>1|18=>4|19=>5|n=>n⟩
theorem Tryz.lays171:Go.Proofs.Lays.n171 Tryz.prog Tryz.lays171_ren:={
 mixed:=by kernel_rfl
 f129:=Tryz.func290.trans (congrArg some (by kernel_rfl))
 f171:=Tryz.func92.trans (congrArg some (by kernel_rfl))
 f243:=Tryz.func151.trans (congrArg some (by kernel_rfl))
 f246:=Tryz.func221.trans (congrArg some (by kernel_rfl))
 f283:=Tryz.func266.trans (congrArg some (by kernel_rfl))
 f284:=Tryz.func267.trans (congrArg some (by kernel_rfl))
 f285:=Tryz.func268.trans (congrArg some (by kernel_rfl))
 f286:=Tryz.func269.trans (congrArg some (by kernel_rfl))
 f317:=Tryz.func289.trans (congrArg some (by kernel_rfl))
 f318:=Tryz.func291.trans (congrArg some (by kernel_rfl))
 f319:=Tryz.func292.trans (congrArg some (by kernel_rfl))
 f320:=Tryz.func293.trans (congrArg some (by kernel_rfl))
 f337:=Tryz.func312.trans (congrArg some (by kernel_rfl))
 f338:=Tryz.func313.trans (congrArg some (by kernel_rfl))
 t0:=Tryz.underlying0
 a0:=Tryz.isAgg0
 z0:=Tryz.sizeOf0
 v0:=Tryz.zeroValue0
 t2:=Tryz.underlying2
 a2:=Tryz.isAgg2
 z2:=Tryz.sizeOf2
 v2:=Tryz.zeroValue2
 t3:=Tryz.underlying3
 a3:=Tryz.isAgg3
 z3:=Tryz.sizeOf3
 v3:=Tryz.zeroValue3
 t4:=Tryz.underlying4
 a4:=Tryz.isAgg4
 z4:=Tryz.sizeOf4
 v4:=Tryz.zeroValue4
 t5:=Tryz.underlying5
 a5:=Tryz.isAgg5
 z5:=Tryz.sizeOf5
 v5:=Tryz.zeroValue5
 t9:=Tryz.underlying9
 a9:=Tryz.isAgg9
 z9:=Tryz.sizeOf9
 v9:=Tryz.zeroValue9
 t20:=Tryz.underlying20
 a20:=Tryz.isAgg20
 z20:=Tryz.sizeOf20
 v20:=Tryz.zeroValue20
 t37:=Tryz.underlying98
 a37:=Tryz.isAgg98
 z37:=Tryz.sizeOf98
 v37:=Tryz.zeroValue98
 t46:=Tryz.underlying276
 a46:=Tryz.isAgg276
 z46:=Tryz.sizeOf276
 v46:=Tryz.zeroValue276
 t51:=Tryz.underlying275
 a51:=Tryz.isAgg275
 z51:=Tryz.sizeOf275
 v51:=Tryz.zeroValue275
 t53:=Tryz.underlying212
 a53:=Tryz.isAgg212
 z53:=Tryz.sizeOf212
 v53:=Tryz.zeroValue212
 t171:=Tryz.underlying315
 a171:=Tryz.isAgg315
 z171:=Tryz.sizeOf315
 v171:=Tryz.zeroValue315
 t173:=Tryz.underlying318
 a173:=Tryz.isAgg318
 z173:=Tryz.sizeOf318
 v173:=Tryz.zeroValue318
 t212:=Tryz.underlying331
 a212:=Tryz.isAgg331
 z212:=Tryz.sizeOf331
 v212:=Tryz.zeroValue331
 t213:=Tryz.underlying332
 a213:=Tryz.isAgg332
 z213:=Tryz.sizeOf332
 t232:=Tryz.underlying357
 a232:=Tryz.isAgg357
 z232:=Tryz.sizeOf357
 v232:=Tryz.zeroValue357
 t233:=Tryz.underlying358
 a233:=Tryz.isAgg358
 z233:=Tryz.sizeOf358
 v233:=Tryz.zeroValue358
 g17:=by kernel_rfl
 g18:=by kernel_rfl
 g19:=by kernel_rfl }
open Go.RowKit Go.Sort Go.Lib in
theorem Tryz.strconv_Itoa_small (i:Nat)(hi:i<100)(w:World) :
  Calls Tryz.prog 92 #[.int .i64 i] w fun e w'=>e=.returned (.string ⟨(Lib.decDigits i).toArray⟩)∧w'=w:=Any.strconv_Itoa_small Tryz.lays171 i hi w
def Tryz.lays143_ren:Go.Shelf.Ren:=⟨fun|143=>207|219=>259|217=>285|225=>286|224=>287|267=>288|266=>310|314=>311|n=>n,fun|9=>9|3=>3|4=>4|5=>5|46=>276|146=>348|51=>275|n=>n,fun|1=>0|n=>n⟩
theorem Tryz.lays143:Go.Proofs.Lays.n143 Tryz.prog Tryz.lays143_ren:={
 mixed:=by kernel_rfl
 f143:=Tryz.func207.trans (congrArg some (by kernel_rfl))
 f217:=Tryz.func285.trans (congrArg some (by kernel_rfl))
 f219:=Tryz.func259.trans (congrArg some (by kernel_rfl))
 f224:=Tryz.func287.trans (congrArg some (by kernel_rfl))
 f225:=Tryz.func286.trans (congrArg some (by kernel_rfl))
 f266:=Tryz.func310.trans (congrArg some (by kernel_rfl))
 f267:=Tryz.func288.trans (congrArg some (by kernel_rfl))
 f314:=Tryz.func311.trans (congrArg some (by kernel_rfl))
 t3:=Tryz.underlying3
 a3:=Tryz.isAgg3
 z3:=Tryz.sizeOf3
 v3:=Tryz.zeroValue3
 t4:=Tryz.underlying4
 a4:=Tryz.isAgg4
 z4:=Tryz.sizeOf4
 v4:=Tryz.zeroValue4
 t5:=Tryz.underlying5
 a5:=Tryz.isAgg5
 z5:=Tryz.sizeOf5
 v5:=Tryz.zeroValue5
 t9:=Tryz.underlying9
 a9:=Tryz.isAgg9
 z9:=Tryz.sizeOf9
 v9:=Tryz.zeroValue9
 t46:=Tryz.underlying276
 a46:=Tryz.isAgg276
 z46:=Tryz.sizeOf276
 v46:=Tryz.zeroValue276
 t51:=Tryz.underlying275
 a51:=Tryz.isAgg275
 z51:=Tryz.sizeOf275
 v51:=Tryz.zeroValue275
 t146:=Tryz.underlying348
 a146:=Tryz.isAgg348
 z146:=Tryz.sizeOf348
 v146:=Tryz.zeroValue348
 g1:=by kernel_rfl }
open Go.RowKit Go.Lib in
theorem Tryz.strings_Index_one (s:ByteArray)(c:UInt8)(w:World) :
  Calls Tryz.prog 207 #[.string s,.string ⟨#[c]⟩] w fun e w'=>e=.returned (.int .i64 (Lib.indexByte s.data.toList c))∧w'=w:=Any.strings_Index_one Tryz.lays143 s c w
def Tryz.lays190_ren:Go.Shelf.Ren:=⟨fun|190=>233|125=>272|258=>271|128=>302|129=>290|302=>294|303=>295|304=>296|305=>297|306=>298|307=>299|308=>239|309=>300|310=>301|333=>314|329=>315|330=>316|334=>317|335=>318|336=>242|344=>321|n=>n,fun|31=>54|9=>9|3=>3|46=>276|0=>0|51=>275|53=>212|4=>4|183=>335|182=>334|131=>190|5=>5|218=>350|222=>354|228=>359|229=>360|n=>n,fun|n=>n⟩
theorem Tryz.lays190:Go.Proofs.Lays.n190 Tryz.prog Tryz.lays190_ren:={
 mixed:=by kernel_rfl
 f125:=Tryz.func272.trans (congrArg some (by kernel_rfl))
 f128:=Tryz.func302.trans (congrArg some (by kernel_rfl))
 f129:=Tryz.func290.trans (congrArg some (by kernel_rfl))
 f190:=Tryz.func233.trans (congrArg some (by kernel_rfl))
 f258:=Tryz.func271.trans (congrArg some (by kernel_rfl))
 f302:=Tryz.func294.trans (congrArg some (by kernel_rfl))
 f303:=Tryz.func295.trans (congrArg some (by kernel_rfl))
 f304:=Tryz.func296.trans (congrArg some (by kernel_rfl))
 f305:=Tryz.func297.trans (congrArg some (by kernel_rfl))
 f306:=Tryz.func298.trans (congrArg some (by kernel_rfl))
 f307:=Tryz.func299.trans (congrArg some (by kernel_rfl))
 f308:=Tryz.func239.trans (congrArg some (by kernel_rfl))
 f309:=Tryz.func300.trans (congrArg some (by kernel_rfl))
 f310:=Tryz.func301.trans (congrArg some (by kernel_rfl))
 f329:=Tryz.func315.trans (congrArg some (by kernel_rfl))
 f330:=Tryz.func316.trans (congrArg some (by kernel_rfl))
 f333:=Tryz.func314.trans (congrArg some (by kernel_rfl))
 f334:=Tryz.func317.trans (congrArg some (by kernel_rfl))
 f335:=Tryz.func318.trans (congrArg some (by kernel_rfl))
 f336:=Tryz.func242.trans (congrArg some (by kernel_rfl))
 f344:=Tryz.func321.trans (congrArg some (by kernel_rfl))
 t0:=Tryz.underlying0
 a0:=Tryz.isAgg0
 z0:=Tryz.sizeOf0
 v0:=Tryz.zeroValue0
 t3:=Tryz.underlying3
 a3:=Tryz.isAgg3
 z3:=Tryz.sizeOf3
 v3:=Tryz.zeroValue3
 t4:=Tryz.underlying4
 a4:=Tryz.isAgg4
 z4:=Tryz.sizeOf4
 v4:=Tryz.zeroValue4
 t5:=Tryz.underlying5
 a5:=Tryz.isAgg5
 z5:=Tryz.sizeOf5
 v5:=Tryz.zeroValue5
 t9:=Tryz.underlying9
 a9:=Tryz.isAgg9
 z9:=Tryz.sizeOf9
 v9:=Tryz.zeroValue9
 t31:=Tryz.underlying54
 a31:=Tryz.isAgg54
 z31:=Tryz.sizeOf54
 v31:=Tryz.zeroValue54
 t46:=Tryz.underlying276
 a46:=Tryz.isAgg276
 z46:=Tryz.sizeOf276
 v46:=Tryz.zeroValue276
 t51:=Tryz.underlying275
 a51:=Tryz.isAgg275
 z51:=Tryz.sizeOf275
 v51:=Tryz.zeroValue275
 t53:=Tryz.underlying212
 a53:=Tryz.isAgg212
 z53:=Tryz.sizeOf212
 v53:=Tryz.zeroValue212
 t131:=Tryz.underlying190
 a131:=Tryz.isAgg190
 z131:=Tryz.sizeOf190
 v131:=Tryz.zeroValue190
 t182:=Tryz.underlying334
 a182:=Tryz.isAgg334
 z182:=Tryz.sizeOf334
 v182:=Tryz.zeroValue334
 t183:=Tryz.underlying335
 a183:=Tryz.isAgg335
 z183:=Tryz.sizeOf335
 v183:=Tryz.zeroValue335
 t218:=Tryz.underlying350
 a218:=Tryz.isAgg350
 z218:=Tryz.sizeOf350
 v218:=Tryz.zeroValue350
 t222:=Tryz.underlying354
 a222:=Tryz.isAgg354
 z222:=Tryz.sizeOf354
 v222:=Tryz.zeroValue354
 t228:=Tryz.underlying359
 a228:=Tryz.isAgg359
 z228:=Tryz.sizeOf359
 v228:=Tryz.zeroValue359
 t229:=Tryz.underlying360
 a229:=Tryz.isAgg360
 z229:=Tryz.sizeOf360
 v229:=Tryz.zeroValue360 }
open Go.Sort Go.RowKit in
theorem Tryz.slices_Sort_string (blk off cap:Nat)(ss:List (List UInt8))(w:World)(hH:Holds encStr w blk off ss.toArray)(hblk:blk<w.heap.size)(hsz:ss.length<4611686018427387904) :
  Calls Tryz.prog 233 #[.slice (some ⟨blk,off,none⟩) ss.length cap] w fun e w' =>
   e=.returned (.tuple #[])∧∃ n os,w'=grow (putRow encStr (Sort.ahead w n) blk off (ss.mergeSort fun x y=>decide (x≤y)).toArray) os:=Any.slices_Sort_string Tryz.lays190 blk off cap ss w hH hblk hsz
def Tryz.lays99_ren:Go.Shelf.Ren:=⟨fun|99=>206|206=>254|n=>n,fun|9=>9|4=>4|3=>3|n=>n,fun|n=>n⟩
theorem Tryz.lays99:Go.Proofs.Lays.n99 Tryz.prog Tryz.lays99_ren:={
 mixed:=by kernel_rfl
 f99:=Tryz.func206.trans (congrArg some (by kernel_rfl))
 f206:=Tryz.func254.trans (congrArg some (by kernel_rfl))
 t3:=Tryz.underlying3
 a3:=Tryz.isAgg3
 z3:=Tryz.sizeOf3
 v3:=Tryz.zeroValue3
 t4:=Tryz.underlying4
 a4:=Tryz.isAgg4
 z4:=Tryz.sizeOf4
 v4:=Tryz.zeroValue4
 t9:=Tryz.underlying9
 a9:=Tryz.isAgg9
 z9:=Tryz.sizeOf9
 v9:=Tryz.zeroValue9 }
open Go.RowKit Go.Lib in
theorem Tryz.strings_HasPrefix (s p:ByteArray)(w:World) :
  Calls Tryz.prog 206 #[.string s,.string p] w fun e w'=>e=.returned (.bool (Lib.hasPrefix s.data.toList p.data.toList))∧w'=w:=Any.strings_HasPrefix Tryz.lays99 s p w
def Tryz.lays110_ren:Go.Shelf.Ren:=⟨fun|110=>213|109=>263|n=>n,fun|31=>54|9=>9|4=>4|3=>3|0=>0|n=>n,fun|n=>n⟩
theorem Tryz.lays110:Go.Proofs.Lays.n110 Tryz.prog Tryz.lays110_ren:={
 mixed:=by kernel_rfl
 f109:=Tryz.func263.trans (congrArg some (by kernel_rfl))
 f110:=Tryz.func213.trans (congrArg some (by kernel_rfl))
 t0:=Tryz.underlying0
 a0:=Tryz.isAgg0
 z0:=Tryz.sizeOf0
 v0:=Tryz.zeroValue0
 t3:=Tryz.underlying3
 a3:=Tryz.isAgg3
 z3:=Tryz.sizeOf3
 v3:=Tryz.zeroValue3
 t4:=Tryz.underlying4
 a4:=Tryz.isAgg4
 z4:=Tryz.sizeOf4
 v4:=Tryz.zeroValue4
 t9:=Tryz.underlying9
 a9:=Tryz.isAgg9
 z9:=Tryz.sizeOf9
 v9:=Tryz.zeroValue9
 t31:=Tryz.underlying54
 a31:=Tryz.isAgg54
 z31:=Tryz.sizeOf54
 v31:=Tryz.zeroValue54 }
open Go.Lib in
theorem Tryz.slices_Contains_string (b off n c:Nat)(zs:List ByteArray)(x:ByteArray)(w:World)(hz:n≤zs.length)(hbig:n≤9223372036854775807)(hc:∀ j,j<zs.length→w.cell? ⟨b,off+j,none⟩=some (.string (zs.getD j ByteArray.empty))) :
  Calls Tryz.prog 213 #[.slice (some ⟨b,off,none⟩) n c,.string x] w fun e w'=>e=.returned (.bool (Lib.containsS (zs.take n) x))∧w'=w:=Any.slices_Contains_string Tryz.lays110 b off n c zs x w hz hbig hc
def Tryz.laysNm215_ren:Go.Shelf.Ren:=⟨fun|15=>137|n=>n,fun|22=>81|3=>3|4=>4|n=>n,fun|n=>n⟩
theorem Tryz.laysNm215:Go.Proofs.Lays2.n15 Tryz.prog Tryz.laysNm215_ren:={
 mixed:=by kernel_rfl
 f15:=Tryz.func137.trans (congrArg some (by kernel_rfl))
 t3:=Tryz.underlying3
 a3:=Tryz.isAgg3
 z3:=Tryz.sizeOf3
 v3:=Tryz.zeroValue3
 t4:=Tryz.underlying4
 a4:=Tryz.isAgg4
 z4:=Tryz.sizeOf4
 v4:=Tryz.zeroValue4
 t22:=Tryz.underlying81
 a22:=Tryz.isAgg81
 z22:=Tryz.sizeOf81
 v22:=Tryz.zeroValue81
 i3:=by kernel_rfl }
open Go.RowKit Go.Lib in
theorem Tryz.slices_Clone_int (b off n c:Nat)(zs:List Int)(w:World)(hz:n≤zs.length)(hbig:n * 8≤140737488355328)(hc:∀ j,j<zs.length→w.cell? ⟨b,off+j,none⟩=some (.int .i64 (zs.getD j 0))) :
  Calls Tryz.prog 137 #[.slice (some ⟨b,off,none⟩) n c] w fun e w'=>∃ v',e=.returned v'∧w'.ownsRow w.heap.size 3 1 v' n ((zs.take n).map (Value.int .i64))∧v'≠.slice none 0 0∧Below w.heap.size w w':=Any.slices_Clone_int Tryz.laysNm215 b off n c zs w hz hbig hc
open Go.RowKit Go.Lib in
theorem Tryz.slices_Clone_int_nil (n c:Nat)(w:World) :
  Calls Tryz.prog 137 #[.slice none n c] w fun e w'=>e=.returned (.slice none 0 0)∧w'=w:=Any.slices_Clone_int_nil Tryz.laysNm215 n c w
def Tryz.laysNm216_ren:Go.Shelf.Ren:=⟨fun|16=>176|n=>n,fun|24=>54|9=>9|4=>4|n=>n,fun|n=>n⟩
theorem Tryz.laysNm216:Go.Proofs.Lays2.n16 Tryz.prog Tryz.laysNm216_ren:={
 mixed:=by kernel_rfl
 f16:=Tryz.func176.trans (congrArg some (by kernel_rfl))
 t4:=Tryz.underlying4
 a4:=Tryz.isAgg4
 z4:=Tryz.sizeOf4
 v4:=Tryz.zeroValue4
 t9:=Tryz.underlying9
 a9:=Tryz.isAgg9
 z9:=Tryz.sizeOf9
 v9:=Tryz.zeroValue9
 t24:=Tryz.underlying54
 a24:=Tryz.isAgg54
 z24:=Tryz.sizeOf54
 v24:=Tryz.zeroValue54
 i9:=by kernel_rfl }
open Go.RowKit Go.Lib in
theorem Tryz.slices_Clone_string (b off n c:Nat)(zs:List ByteArray)(w:World)(hz:n≤zs.length)(hbig:n * 16≤140737488355328)(hc:∀ j,j<zs.length→w.cell? ⟨b,off+j,none⟩=some (.string (zs.getD j ByteArray.empty))) :
  Calls Tryz.prog 176 #[.slice (some ⟨b,off,none⟩) n c] w fun e w'=>∃ v',e=.returned v'∧w'.ownsRow w.heap.size 9 1 v' n ((zs.take n).map (Value.string))∧v'≠.slice none 0 0∧Below w.heap.size w w':=Any.slices_Clone_string Tryz.laysNm216 b off n c zs w hz hbig hc
open Go.RowKit Go.Lib in
theorem Tryz.slices_Clone_string_nil (n c:Nat)(w:World) :
  Calls Tryz.prog 176 #[.slice none n c] w fun e w'=>e=.returned (.slice none 0 0)∧w'=w:=Any.slices_Clone_string_nil Tryz.laysNm216 n c w
open Go.RowKit Go.Lib in
theorem Tryz.slices_Clone_int_zero (a:Addr)(c:Nat)(w:World) :
  Calls Tryz.prog 137 #[.slice (some a) 0 c] w fun e w'=>∃ v',e=.returned v'∧w'.ownsRow w.heap.size 3 1 v' 0 []∧v'≠.slice none 0 0∧Below w.heap.size w w':=Any.slices_Clone_int_zero Tryz.laysNm215 a c w
open Go.RowKit Go.Lib in
theorem Tryz.slices_Clone_string_zero (a:Addr)(c:Nat)(w:World) :
  Calls Tryz.prog 176 #[.slice (some a) 0 c] w fun e w'=>∃ v',e=.returned v'∧w'.ownsRow w.heap.size 9 1 v' 0 []∧v'≠.slice none 0 0∧Below w.heap.size w w':=Any.slices_Clone_string_zero Tryz.laysNm216 a c w
def Tryz.lays194_ren:Go.Shelf.Ren:=⟨fun|194=>235|n=>n,fun|31=>54|9=>9|3=>3|4=>4|0=>0|n=>n,fun|n=>n⟩
theorem Tryz.lays194:Go.Proofs.Lays.n194 Tryz.prog Tryz.lays194_ren:={
 mixed:=by kernel_rfl
 f194:=Tryz.func235.trans (congrArg some (by kernel_rfl))
 t0:=Tryz.underlying0
 a0:=Tryz.isAgg0
 z0:=Tryz.sizeOf0
 v0:=Tryz.zeroValue0
 t3:=Tryz.underlying3
 a3:=Tryz.isAgg3
 z3:=Tryz.sizeOf3
 v3:=Tryz.zeroValue3
 t4:=Tryz.underlying4
 a4:=Tryz.isAgg4
 z4:=Tryz.sizeOf4
 v4:=Tryz.zeroValue4
 t9:=Tryz.underlying9
 a9:=Tryz.isAgg9
 z9:=Tryz.sizeOf9
 v9:=Tryz.zeroValue9
 t31:=Tryz.underlying54
 a31:=Tryz.isAgg54
 z31:=Tryz.sizeOf54
 v31:=Tryz.zeroValue54 }
open Go.RowKit Go.Lib Go.Sort in
theorem Tryz.slices_Compact_string (blk off cap:Nat)(zs:List (List UInt8))(w:World)(hH:Holds encStr w blk off zs.toArray)(hsz:zs.length≤9223372036854775807)(hcap:zs.length≤cap) :
  Calls Tryz.prog 235 #[.slice (some ⟨blk,off,none⟩) zs.length cap] w fun e w'=>e=.returned (.slice (some ⟨blk,off,none⟩) (Lib.compact zs).length cap)∧∃ q,w'=putRow encStr (Sort.ahead w q) blk off (Lib.compact zs++List.replicate (zs.length - (Lib.compact zs).length) []).toArray:=Any.slices_Compact_string Tryz.lays194 blk off cap zs w hH hsz hcap
open Go.RowKit Go.Lib Go.Sort in
theorem Tryz.slices_Compact_string_empty (a:Option Addr)(cap:Nat)(w:World) :
  Calls Tryz.prog 235 #[.slice a 0 cap] w fun e w'=>e=.returned (.slice a 0 cap)∧w'=w:=Any.slices_Compact_string_empty Tryz.lays194 a cap w
open Go.RowKit Go.Sort in
theorem Tryz.slices_Sort_string_none (p:Option Addr)(cap:Nat)(w:World) :
  Calls Tryz.prog 233 #[.slice p 0 cap] w fun e w'=>e=.returned (.tuple #[])∧w'=w:=Any.slices_Sort_string_none Tryz.lays190 p cap w
def Tryz.lays2x26_ren:Go.Shelf.Ren:=⟨fun|26=>178|33=>239|34=>240|38=>242|n=>n,fun|24=>54|9=>9|3=>3|4=>4|40=>276|0=>0|n=>n,fun|n=>n⟩
theorem Tryz.lays2x26:Go.Proofs.Lays2.n26 Tryz.prog Tryz.lays2x26_ren:={
 mixed:=by kernel_rfl
 f26:=Tryz.func178.trans (congrArg some (by kernel_rfl))
 f33:=Tryz.func239.trans (congrArg some (by kernel_rfl))
 f34:=Tryz.func240.trans (congrArg some (by kernel_rfl))
 f38:=Tryz.func242.trans (congrArg some (by kernel_rfl))
 t0:=Tryz.underlying0
 a0:=Tryz.isAgg0
 z0:=Tryz.sizeOf0
 v0:=Tryz.zeroValue0
 t3:=Tryz.underlying3
 a3:=Tryz.isAgg3
 z3:=Tryz.sizeOf3
 v3:=Tryz.zeroValue3
 t4:=Tryz.underlying4
 a4:=Tryz.isAgg4
 z4:=Tryz.sizeOf4
 v4:=Tryz.zeroValue4
 t9:=Tryz.underlying9
 a9:=Tryz.isAgg9
 z9:=Tryz.sizeOf9
 v9:=Tryz.zeroValue9
 t24:=Tryz.underlying54
 a24:=Tryz.isAgg54
 z24:=Tryz.sizeOf54
 v24:=Tryz.zeroValue54
 t40:=Tryz.underlying276
 a40:=Tryz.isAgg276
 z40:=Tryz.sizeOf276
 v40:=Tryz.zeroValue276 }
end Go.Proofs

namespace Go.Proofs.YtbodlpoomfefcaaGreatDoor
open Go.RowKit
theorem letterB_cases (c:UInt8):letterB c=((decide (97≤(c.toNat:Int)) && decide ((c.toNat:Int)≤122)) || (decide (65≤(c.toNat:Int)) && decide ((c.toNat:Int)≤90))):=by
  have h1:(97≤c)↔(97≤(c.toNat:Int)):=by rw [UInt8.le_iff_toNat_le];show 97≤c.toNat↔_;omega
  have h2:(c≤122)↔((c.toNat:Int)≤122):=by rw [UInt8.le_iff_toNat_le];show c.toNat≤122↔_;omega
  have h3:(65≤c)↔(65≤(c.toNat:Int)):=by rw [UInt8.le_iff_toNat_le];show 65≤c.toNat↔_;omega
  have h4:(c≤90)↔((c.toNat:Int)≤90):=by rw [UInt8.le_iff_toNat_le];show c.toNat≤90↔_;omega
  simp only [letterB,h1,h2,h3,h4]
theorem digitB_cases (c:UInt8):digitB c=(decide (48≤(c.toNat:Int)) && decide ((c.toNat:Int)≤57)):=by
  have h1:(48≤c)↔(48≤(c.toNat:Int)):=by rw [UInt8.le_iff_toNat_le];show 48≤c.toNat↔_;omega
  have h2:(c≤57)↔((c.toNat:Int)≤57):=by rw [UInt8.le_iff_toNat_le];show c.toNat≤57↔_;omega
  simp only [digitB,h1,h2]
theorem u8_eq (c:UInt8)(k:UInt8):(c == k)=((c.toNat:Int) == (k.toNat:Int)):=by
  rw [Bool.eq_iff_iff,beq_iff_eq,beq_iff_eq,← UInt8.toNat_inj]
  omega
theorem letter_any (c:UInt8)(w:World):Calls Tryz.prog 208 #[.int .u8 c.toNat] w fun e w'=>e=.returned (.bool (letterB c))∧w'=w:=by
  rw [letterB_cases]
  go_enter Tryz.func208,Tryz.ntmps208
  go_wp2
  all_goals (go_ret;refine ⟨ret_bool ?_,rfl⟩;simp;try omega)
theorem digit_any (c:UInt8)(w:World):Calls Tryz.prog 210 #[.int .u8 c.toNat] w fun e w'=>e=.returned (.bool (digitB c))∧w'=w:=by
  rw [digitB_cases]
  go_enter Tryz.func210,Tryz.ntmps210
  go_wp2
  all_goals (go_ret;refine ⟨ret_bool ?_,rfl⟩;simp;try omega)
theorem inside_any (c:UInt8)(w:World):Calls Tryz.prog 261 #[.int .u8 c.toNat] w fun e w'=>e=.returned (.bool (insideB c))∧w'=w:=by
  have hq:insideB c=(letterB c || digitB c || ((c.toNat:Int) == 95)):=by rw [insideB,u8_eq];rfl
  rw [hq]
  clear hq
  generalize hL:letterB c=L
  generalize hD:digitB c=D
  cases L <;> cases D <;>
  (go_enter Tryz.func261,Tryz.ntmps261
   go_wp2_with (first|(go_at_call 208;refine (letter_any c _).mono ?_;rintro e w' ⟨rfl,rfl⟩;rw [hL])|(go_at_call 210;refine (digit_any c _).mono ?_;rintro e w' ⟨rfl,rfl⟩;rw [hD]))
   all_goals (go_ret;refine ⟨ret_bool ?_,rfl⟩;simp))
def runL (p:UInt8→Bool)(s:ByteArray):Nat:=(s.data.toList.takeWhile p).length
theorem take_more (p:UInt8→Bool):∀ (T:List UInt8) (k:Nat),k≤(T.takeWhile p).length→(k<(T.takeWhile p).length↔∃ c,T[k]?=some c∧p c=true)
  | [],k,hk=>by simp
  | c :: r,0,hk=>by
    by_cases h:p c=true
    · simp [List.takeWhile_cons_of_pos h,h]
    · simp [List.takeWhile_cons_of_neg h,h]
  | c :: r,k+1,hk=>by
    by_cases h:p c=true
    · rw [List.takeWhile_cons_of_pos h,List.length_cons] at hk ⊢
      have:=take_more p r k (by omega)
      simp only [List.getElem?_cons_succ]
      rw [← this]
      omega
    · rw [List.takeWhile_cons_of_neg h] at hk
      simp at hk
theorem byte_is {s:ByteArray}{i:Nat}(hi:i<s.size):s.data.toList[i]?=some (s[i]'hi):=by
  rw [List.getElem?_eq_getElem (by rw [Lib.size_eq] at hi;exact hi)]
  rfl
theorem run_inside (s:ByteArray)(w:World)(hs:s.size≤1099511627776) :
    Calls Tryz.prog 260 #[.string s,.func (.func 261) #[] #[]] w fun e w'=>e=.returned (.string (s.extract 0 (runL insideB s)))∧w'=w:=by
  have hr:runL insideB s≤s.size:=by rw [Lib.size_eq];exact takeWhile_le insideB _
  go_enter Tryz.func260,Tryz.ntmps260
  go_wp2
  go_loop [5] (fun n=>∃ k:Nat,n=.int .i64 k∧k≤runL insideB s) (fun n=>s.size - (intOf n).toNat)
  case atStart=>exact ⟨0,rfl,Nat.zero_le _⟩
  case round =>
    obtain ⟨k,rfl,hk⟩:=hrel
    have hm:=take_more insideB s.data.toList k hk
    by_cases hlt:k<s.size
    · have hI:(k:Int) < ↑s.size:=by omega
      have hD:decide ((k:Int) < ↑s.size)=true:=decide_eq_true hI
      rw [byte_is hlt] at hm
      by_cases hp:insideB (s[k]'hlt)=true
      · have hk1:k<runL insideB s:=hm.2 ⟨_,rfl,hp⟩
        have HM:=Lib.hid hm
        clear hm
        go_wp2_with (go_at_call 261;refine (inside_any _ _).mono ?_;rintro e w1 ⟨rfl,rfl⟩)
        go_round
        case rel=>exact ⟨k+1,by go_num,by omega⟩
        case measure=>simp [intOf];omega
      · have hk1:k=runL insideB s:=by
          rcases Nat.lt_or_ge k (runL insideB s) with h|h
          · obtain ⟨c,h1,h2⟩:=hm.1 h
            injection h1 with h1
            subst h1
            exact absurd h2 hp
          · omega
        have hp':insideB (s[k]'hlt)=false:=by simpa using hp
        have HK:=Lib.hid hk1
        clear hm hp hk1
        go_wp2_with (go_at_call 261;refine (inside_any _ _).mono ?_;rintro e w1 ⟨rfl,rfl⟩)
        go_ret
        exact ⟨by rw [← HK.out];rfl,rfl⟩
    · have hk1:k=runL insideB s:=by omega
      have hD:decide ((k:Int) < ↑s.size)=false:=decide_eq_false (by omega)
      have HK:=Lib.hid hk1
      clear hm hk1
      go_wp2
      go_ret
      exact ⟨by rw [← HK.out];rfl,rfl⟩
theorem run_digit (s:ByteArray)(w:World)(hs:s.size≤1099511627776) :
    Calls Tryz.prog 260 #[.string s,.func (.func 210) #[] #[]] w fun e w'=>e=.returned (.string (s.extract 0 (runL digitB s)))∧w'=w:=by
  have hr:runL digitB s≤s.size:=by rw [Lib.size_eq];exact takeWhile_le digitB _
  go_enter Tryz.func260,Tryz.ntmps260
  go_wp2
  go_loop [5] (fun n=>∃ k:Nat,n=.int .i64 k∧k≤runL digitB s) (fun n=>s.size - (intOf n).toNat)
  case atStart=>exact ⟨0,rfl,Nat.zero_le _⟩
  case round =>
    obtain ⟨k,rfl,hk⟩:=hrel
    have hm:=take_more digitB s.data.toList k hk
    by_cases hlt:k<s.size
    · have hI:(k:Int) < ↑s.size:=by omega
      have hD:decide ((k:Int) < ↑s.size)=true:=decide_eq_true hI
      rw [byte_is hlt] at hm
      by_cases hp:digitB (s[k]'hlt)=true
      · have hk1:k<runL digitB s:=hm.2 ⟨_,rfl,hp⟩
        have HM:=Lib.hid hm
        clear hm
        go_wp2_with (go_at_call 210;refine (digit_any _ _).mono ?_;rintro e w1 ⟨rfl,rfl⟩)
        go_round
        case rel=>exact ⟨k+1,by go_num,by omega⟩
        case measure=>simp [intOf];omega
      · have hk1:k=runL digitB s:=by
          rcases Nat.lt_or_ge k (runL digitB s) with h|h
          · obtain ⟨c,h1,h2⟩:=hm.1 h
            injection h1 with h1
            subst h1
            exact absurd h2 hp
          · omega
        have hp':digitB (s[k]'hlt)=false:=by simpa using hp
        have HK:=Lib.hid hk1
        clear hm hp hk1
        go_wp2_with (go_at_call 210;refine (digit_any _ _).mono ?_;rintro e w1 ⟨rfl,rfl⟩)
        go_ret
        exact ⟨by rw [← HK.out];rfl,rfl⟩
    · have hk1:k=runL digitB s:=by omega
      have hD:decide ((k:Int) < ↑s.size)=false:=decide_eq_false (by omega)
      have HK:=Lib.hid hk1
      clear hm hk1
      go_wp2
      go_ret
      exact ⟨by rw [← HK.out];rfl,rfl⟩
theorem blankB_set:∀ c:UInt8,blankB c=([32,9,13,10]:List UInt8).contains c:=by
 intro c
 simp only [blankB,List.contains_cons,List.contains_nil,Bool.or_false,Bool.or_assoc]
theorem trim_any (s:ByteArray)(w:World):Calls Tryz.prog 205 #[.string s,.string ⟨#[32,9,13,10]⟩] w fun e w'=>e=.returned (.string ⟨(s.data.toList.dropWhile blankB).toArray⟩)∧Below w.heap.size w w':=by
 have h:=Any.strings_TrimLeft_laid Tryz.lays161 (by kernel_rfl) s ⟨#[32,9,13,10]⟩ w (by decide) (ascii_of_all (by decide))
 have e:Lib.trimLeftS s.data.toList (ByteArray.mk #[32,9,13,10]).data.toList=s.data.toList.dropWhile blankB:=by
  unfold Lib.trimLeftS
  congr 1
  funext c
  exact (blankB_set c).symm
 rw [e] at h
 exact h
theorem drop_blanks (T:List UInt8):T.dropWhile blankB=T.drop (T.takeWhile blankB).length:=by
 induction T with
 | nil=>rfl
 | cons c r ih =>
  by_cases h:blankB c=true
  ·rw [List.dropWhile_cons_of_pos h,List.takeWhile_cons_of_pos h,ih];rfl
  ·rw [List.dropWhile_cons_of_neg h,List.takeWhile_cons_of_neg h];rfl
theorem take_none (T:List UInt8):(T.dropWhile blankB).takeWhile blankB=[]:=by
 cases h:T.dropWhile blankB with
 | nil=>rfl
 | cons c r =>
  have:=List.head?_dropWhile_not blankB T
  rw [h] at this
  simp only [List.head?_cons] at this
  rw [List.takeWhile_cons_of_neg (by simpa using this)]
theorem pre_one (T:List UInt8)(i:Nat)(h:[45,45] <+: T)(hi:T[i]?=some 10):0<i:=by
 obtain ⟨r,rfl⟩:=h
 cases i with
 | zero=>cases hi
 | succ i=>omega
theorem between_any (s:ByteArray)(w:World)(hs:s.size≤1099511627776) :
  Calls Tryz.prog 134 #[.string s] w fun e w'=>e=.returned (.string (s.extract 0 (leadF false s.data.toList)))∧Below w.heap.size w w':=by
 have hle:=leadF_le false s.data.toList
 rw [← Lib.size_eq] at hle
 go_enter Tryz.func134,Tryz.ntmps134
 go_wp2
 go_loopw [3] (fun r wr=>∃ (d:Nat) (x:ByteArray),r=.string x∧d≤s.size∧x.data.toList=s.data.toList.drop d∧leadF false s.data.toList=d+leadF false (s.data.toList.drop d)∧Below w.heap.size w wr) (fun r _=>strLen r)
 case atStart=>exact ⟨0,s,rfl,Nat.zero_le _,rfl,by simp,Below.refl _ _⟩
 case round =>
  obtain ⟨d,x,rfl,hd,hx,hl,hb⟩:=hrel
  have hz:=hb.size
  have hxs:x.size=s.size - d:=by rw [Lib.size_eq,hx,List.length_drop,← Lib.size_eq]
  rw [leadF_blanks (s.data.toList.drop d),← hx] at hl
  have hkl:=takeWhile_le blankB x.data.toList
  have hnone:=take_none x.data.toList
  have hdrop:=drop_blanks x.data.toList
  rw [← Lib.size_eq] at hkl
  generalize hk:(x.data.toList.takeWhile blankB).length=k at hl hkl hdrop
  generalize hy:(ByteArray.mk (x.data.toList.dropWhile blankB).toArray)=y
  have hyl:y.data.toList=x.data.toList.dropWhile blankB:=by rw [← hy]
  have hys:y.size=s.size - (d+k):=by rw [Lib.size_eq,hyl,hdrop,List.length_drop,← Lib.size_eq,hxs];omega
  rw [← hyl] at hl hnone hdrop
  have HT:=Lib.hid (trim_any x wr)
  have HY:=Lib.hid hy
  by_cases hp:[45,45] <+: y.data.toList
  ·have hpre:Lib.hasPrefix y.data.toList (ByteArray.mk #[45,45]).data.toList=true:=List.isPrefixOf_iff_prefix.2 hp
   rw [leadF_remark _ hp] at hl
   rcases ten_cases y.data.toList with ⟨h1,h2⟩|⟨i,h1,h2,h3,h4⟩
   ·have HP:=Lib.hid (Tryz.strings_HasPrefix y ⟨#[45,45]⟩)
    have HI:=Lib.hid (Tryz.strings_Index_one y 10)
    have HJ:=Lib.hid h1
    rw [leadF_none _ h2,← Lib.size_eq,hys] at hl
    have HL:=Lib.hid hl
    have HB:=Lib.hid hpre
    clear hl hy hyl hx hnone hdrop hp hpre hk hle h1 h2
    go_wp2_with (first|(go_at_call 205;refine HT.out.mono ?_;rw [HY.out];rintro e w1 ⟨rfl,hb1⟩)|(go_at_call 206;refine (HP.out _).mono ?_;rw [HB.out];rintro e w2 ⟨rfl,rfl⟩)|(go_at_call 207;refine (HI.out _).mono ?_;rw [HJ.out];rintro e w2 ⟨rfl,rfl⟩))
    go_ret
    exact ⟨ret_str (by rw [HL.out];exact bytes_ext (by rw [show d+(k+(s.size - (d+k)))=s.size by omega,extract_end];rfl)),hb.trans (hb1.mono hz)⟩
   ·have HP:=Lib.hid (Tryz.strings_HasPrefix y ⟨#[45,45]⟩)
    have HI:=Lib.hid (Tryz.strings_Index_one y 10)
    have HJ:=Lib.hid h1
    rw [leadF_some i _ h2 h4] at hl
    rw [← Lib.size_eq] at h3
    have hi0:=pre_one _ _ hp h2
    have HL:=Lib.hid hl
    have HB:=Lib.hid hpre
    have hq:(y.extract i y.size).data.toList=s.data.toList.drop (d+k+i):=by
     rw [extract_end,hdrop,hx,List.drop_drop,List.drop_drop]
     congr 1
     omega
    have hq2:y.data.toList.drop i=s.data.toList.drop (d+k+i):=by rw [← hq,extract_end]
    have hes:(y.extract i y.size).size=y.size - i:=by rw [ByteArray.size_extract];omega
    rw [hys] at hq hes
    have HQ:=Lib.hid hq
    have HQ2:=Lib.hid hq2
    have HES:=Lib.hid hes
    clear hl hy hyl hx hnone hdrop hp hpre hk hle h1 h2 h4 hq hq2 hes
    go_wp2_with (first|(go_at_call 205;refine HT.out.mono ?_;rw [HY.out];rintro e w1 ⟨rfl,hb1⟩)|(go_at_call 206;refine (HP.out _).mono ?_;rw [HB.out];rintro e w2 ⟨rfl,rfl⟩)|(go_at_call 207;refine (HI.out _).mono ?_;rw [HJ.out];rintro e w2 ⟨rfl,rfl⟩))
    go_roundw
    case rel=>exact ⟨d+k+i,_,rfl,by omega,HQ.out,by rw [HL.out,HQ2.out];omega,hb.trans (hb1.mono hz)⟩
    case measure=>simp only [strLen];rw [HES.out];omega
  ·have hpre:Lib.hasPrefix y.data.toList (ByteArray.mk #[45,45]).data.toList=false:=by
    cases h:Lib.hasPrefix y.data.toList (ByteArray.mk #[45,45]).data.toList with
    | false=>rfl
    | true=>exact absurd (List.isPrefixOf_iff_prefix.1 h) hp
   rw [leadF_stop _ hp hnone,Nat.add_zero] at hl
   have HP:=Lib.hid (Tryz.strings_HasPrefix y ⟨#[45,45]⟩)
   have HL:=Lib.hid hl
   have HB:=Lib.hid hpre
   clear hl hy hyl hx hnone hdrop hp hpre hk hle
   go_wp2_with (first|(go_at_call 205;refine HT.out.mono ?_;rw [HY.out];rintro e w1 ⟨rfl,hb1⟩)|(go_at_call 206;refine (HP.out _).mono ?_;rw [HB.out];rintro e w2 ⟨rfl,rfl⟩))
   go_ret
   exact ⟨ret_str (by rw [HL.out];congr 1;omega),hb.trans (hb1.mono hz)⟩
end Go.Proofs.YtbodlpoomfefcaaGreatDoor
