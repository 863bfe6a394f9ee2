/- Walks and plain laws: Shelf, LexW1, LexW2, LexW3. -/
import Derived.Shelf.Spec.SearchS
import Derived.Shelf.Strings.Builder1
import Derived.Shelf.Strings.Trim
import Derived.Shelf.Small.Utf8
import Derived.Shelf.Small.Strs
import Derived.Shelf.Small.Wraps
import Derived.Shelf.Strings.BuilderF
import Derived.Shelf.Strings.BuilderK
import Derived.Shelf.Strconv.Itoa0
import Derived.Shelf.Strconv.Itoa1
import Derived.Shelf.LaysM
import Derived.Shelf.Strconv.Itoa2
import Derived.Shelf.Strconv.Itoa3
import Derived.Shelf.Strings.Search1
import Derived.Shelf.Strings.Search2
import Derived.Shelf.Strings.Search3
import Derived.Shelf.Strings.Shaped
import Derived.Shelf.Strings.Prefix
import Derived.Shelf.Strings.Runes
import Derived.Shelf.Strings.AsciiSet
import Derived.Shelf.Unicode.DecodeSlow
import Derived.Shelf.Slices.Turned
import Derived.Ground.Names2Prog
import Derived.Shelf.Slices.Clone
import Derived.Test.YtdednahplodojaaGreatDoorProg
import Derived.Test.YtdednahplodojaaGreatDoorD01
import Derived.Shelf.Strings.SlTrimAscii
import Derived.Lib.SlTrimSet
set_option maxHeartbeats 16000000
set_option maxRecDepth 100000
set_option linter.unusedVariables false
set_option linter.unusedSimpArgs false
namespace Go.Proofs
open Go.Shelf
def Tryz.lays169_ren:Go.Shelf.Ren:=⟨fun|169=>40|n=>n,fun|70=>96|9=>9|0=>0|72=>99|37=>97|127=>150|3=>3|5=>5|n=>n,fun|n=>n⟩
theorem Tryz.lays169:Go.Proofs.Lays.n169 Tryz.prog Tryz.lays169_ren:={
 mixed:=by kernel_rfl
 f169:=Tryz.func40.trans (congrArg some (by kernel_rfl))
 t0:=Tryz.underlying0
 a0:=Tryz.isAgg0
 z0:=Tryz.sizeOf0
 v0:=Tryz.zeroValue0
 t3:=Tryz.underlying3
 a3:=Tryz.isAgg3
 z3:=Tryz.sizeOf3
 v3:=Tryz.zeroValue3
 t9:=Tryz.underlying9
 a9:=Tryz.isAgg9
 z9:=Tryz.sizeOf9
 v9:=Tryz.zeroValue9
 t37:=Tryz.underlying97
 a37:=Tryz.isAgg97
 z37:=Tryz.sizeOf97
 v37:=Tryz.zeroValue97
 t70:=Tryz.underlying96
 a70:=Tryz.isAgg96
 z70:=Tryz.sizeOf96
 v70:=Tryz.zeroValue96
 t72:=Tryz.underlying99
 a72:=Tryz.isAgg99
 z72:=Tryz.sizeOf99
 v72:=Tryz.zeroValue99
 t127:=Tryz.underlying150
 a127:=Tryz.isAgg150
 z127:=Tryz.sizeOf150
 v127:=Tryz.zeroValue150 }
theorem Tryz.Builder_Extra_169:Builder.Extra Tryz.prog Tryz.lays169_ren:={
 sizeBuilder:=by kernel_rfl
 liesBuilder:=by kernel_rfl
 t5:=Tryz.underlying5
 a5:=Tryz.isAgg5
 z5:=Tryz.sizeOf5
 v5:=Tryz.zeroValue5
 infoByte:=by kernel_rfl
 cellsByte:=by kernel_rfl
 sizeByte:=by kernel_rfl
 neB5:=by decide }
def Tryz.lays161_ren:Go.Shelf.Ren:=⟨fun|161=>149|231=>123|227=>125|233=>126|235=>128|228=>167|197=>168|151=>169|260=>193|152=>194|137=>210|119=>211|224=>201|225=>200|217=>199|266=>214|n=>n,fun|9=>9|4=>4|3=>3|5=>5|117=>196|116=>195|0=>0|124=>199|105=>233|21=>21|119=>261|46=>201|139=>264|138=>263|n=>n,fun|3=>2|4=>3|n=>n⟩
theorem Tryz.lays161:Go.Proofs.Lays.n161 Tryz.prog Tryz.lays161_ren:={
 mixed:=by kernel_rfl
 f119:=Tryz.func211.trans (congrArg some (by kernel_rfl))
 f137:=Tryz.func210.trans (congrArg some (by kernel_rfl))
 f151:=Tryz.func169.trans (congrArg some (by kernel_rfl))
 f152:=Tryz.func194.trans (congrArg some (by kernel_rfl))
 f161:=Tryz.func149.trans (congrArg some (by kernel_rfl))
 f197:=Tryz.func168.trans (congrArg some (by kernel_rfl))
 f217:=Tryz.func199.trans (congrArg some (by kernel_rfl))
 f224:=Tryz.func201.trans (congrArg some (by kernel_rfl))
 f225:=Tryz.func200.trans (congrArg some (by kernel_rfl))
 f227:=Tryz.func125.trans (congrArg some (by kernel_rfl))
 f228:=Tryz.func167.trans (congrArg some (by kernel_rfl))
 f231:=Tryz.func123.trans (congrArg some (by kernel_rfl))
 f233:=Tryz.func126.trans (congrArg some (by kernel_rfl))
 f235:=Tryz.func128.trans (congrArg some (by kernel_rfl))
 f260:=Tryz.func193.trans (congrArg some (by kernel_rfl))
 f266:=Tryz.func214.trans (congrArg some (by kernel_rfl))
 t0:=Tryz.underlying0
 a0:=Tryz.isAgg0
 z0:=Tryz.sizeOf0
 v0:=Tryz.zeroValue0
 t3:=Tryz.underlying3
 a3:=Tryz.isAgg3
 z3:=Tryz.sizeOf3
 v3:=Tryz.zeroValue3
 t4:=Tryz.underlying4
 a4:=Tryz.isAgg4
 z4:=Tryz.sizeOf4
 v4:=Tryz.zeroValue4
 t5:=Tryz.underlying5
 a5:=Tryz.isAgg5
 z5:=Tryz.sizeOf5
 v5:=Tryz.zeroValue5
 t9:=Tryz.underlying9
 a9:=Tryz.isAgg9
 z9:=Tryz.sizeOf9
 v9:=Tryz.zeroValue9
 t21:=Tryz.underlying21
 a21:=Tryz.isAgg21
 z21:=Tryz.sizeOf21
 v21:=Tryz.zeroValue21
 t46:=Tryz.underlying201
 a46:=Tryz.isAgg201
 z46:=Tryz.sizeOf201
 v46:=Tryz.zeroValue201
 t105:=Tryz.underlying233
 a105:=Tryz.isAgg233
 z105:=Tryz.sizeOf233
 v105:=Tryz.zeroValue233
 t116:=Tryz.underlying195
 a116:=Tryz.isAgg195
 z116:=Tryz.sizeOf195
 t117:=Tryz.underlying196
 a117:=Tryz.isAgg196
 z117:=Tryz.sizeOf196
 v117:=Tryz.zeroValue196
 t119:=Tryz.underlying261
 a119:=Tryz.isAgg261
 z119:=Tryz.sizeOf261
 t124:=Tryz.underlying199
 a124:=Tryz.isAgg199
 z124:=Tryz.sizeOf199
 v124:=Tryz.zeroValue199
 t138:=Tryz.underlying263
 a138:=Tryz.isAgg263
 z138:=Tryz.sizeOf263
 v138:=Tryz.zeroValue263
 t139:=Tryz.underlying264
 a139:=Tryz.isAgg264
 z139:=Tryz.sizeOf264
 v139:=Tryz.zeroValue264
 g3:=by kernel_rfl
 g4:=by kernel_rfl }
def Tryz.lays162_ren:Go.Shelf.Ren:=⟨fun|162=>131|232=>124|227=>125|234=>127|236=>129|228=>167|271=>170|151=>169|120=>195|197=>168|152=>194|260=>193|137=>210|119=>211|224=>201|225=>200|217=>199|266=>214|n=>n,fun|9=>9|4=>4|3=>3|5=>5|117=>196|116=>195|0=>0|124=>199|21=>21|105=>233|46=>201|119=>261|139=>264|138=>263|n=>n,fun|3=>2|4=>3|n=>n⟩
theorem Tryz.lays162:Go.Proofs.Lays.n162 Tryz.prog Tryz.lays162_ren:={
 mixed:=by kernel_rfl
 f119:=Tryz.func211.trans (congrArg some (by kernel_rfl))
 f120:=Tryz.func195.trans (congrArg some (by kernel_rfl))
 f137:=Tryz.func210.trans (congrArg some (by kernel_rfl))
 f151:=Tryz.func169.trans (congrArg some (by kernel_rfl))
 f152:=Tryz.func194.trans (congrArg some (by kernel_rfl))
 f162:=Tryz.func131.trans (congrArg some (by kernel_rfl))
 f197:=Tryz.func168.trans (congrArg some (by kernel_rfl))
 f217:=Tryz.func199.trans (congrArg some (by kernel_rfl))
 f224:=Tryz.func201.trans (congrArg some (by kernel_rfl))
 f225:=Tryz.func200.trans (congrArg some (by kernel_rfl))
 f227:=Tryz.func125.trans (congrArg some (by kernel_rfl))
 f228:=Tryz.func167.trans (congrArg some (by kernel_rfl))
 f232:=Tryz.func124.trans (congrArg some (by kernel_rfl))
 f234:=Tryz.func127.trans (congrArg some (by kernel_rfl))
 f236:=Tryz.func129.trans (congrArg some (by kernel_rfl))
 f260:=Tryz.func193.trans (congrArg some (by kernel_rfl))
 f266:=Tryz.func214.trans (congrArg some (by kernel_rfl))
 f271:=Tryz.func170.trans (congrArg some (by kernel_rfl))
 t0:=Tryz.underlying0
 a0:=Tryz.isAgg0
 z0:=Tryz.sizeOf0
 v0:=Tryz.zeroValue0
 t3:=Tryz.underlying3
 a3:=Tryz.isAgg3
 z3:=Tryz.sizeOf3
 v3:=Tryz.zeroValue3
 t4:=Tryz.underlying4
 a4:=Tryz.isAgg4
 z4:=Tryz.sizeOf4
 v4:=Tryz.zeroValue4
 t5:=Tryz.underlying5
 a5:=Tryz.isAgg5
 z5:=Tryz.sizeOf5
 v5:=Tryz.zeroValue5
 t9:=Tryz.underlying9
 a9:=Tryz.isAgg9
 z9:=Tryz.sizeOf9
 v9:=Tryz.zeroValue9
 t21:=Tryz.underlying21
 a21:=Tryz.isAgg21
 z21:=Tryz.sizeOf21
 v21:=Tryz.zeroValue21
 t46:=Tryz.underlying201
 a46:=Tryz.isAgg201
 z46:=Tryz.sizeOf201
 v46:=Tryz.zeroValue201
 t105:=Tryz.underlying233
 a105:=Tryz.isAgg233
 z105:=Tryz.sizeOf233
 v105:=Tryz.zeroValue233
 t116:=Tryz.underlying195
 a116:=Tryz.isAgg195
 z116:=Tryz.sizeOf195
 t117:=Tryz.underlying196
 a117:=Tryz.isAgg196
 z117:=Tryz.sizeOf196
 v117:=Tryz.zeroValue196
 t119:=Tryz.underlying261
 a119:=Tryz.isAgg261
 z119:=Tryz.sizeOf261
 t124:=Tryz.underlying199
 a124:=Tryz.isAgg199
 z124:=Tryz.sizeOf199
 v124:=Tryz.zeroValue199
 t138:=Tryz.underlying263
 a138:=Tryz.isAgg263
 z138:=Tryz.sizeOf263
 v138:=Tryz.zeroValue263
 t139:=Tryz.underlying264
 a139:=Tryz.isAgg264
 z139:=Tryz.sizeOf264
 v139:=Tryz.zeroValue264
 g3:=by kernel_rfl
 g4:=by kernel_rfl }
open Go.RowKit in
theorem Tryz.strings_TrimRight_one (s:ByteArray)(c:UInt8)(hc:c.toNat<128)(w:World)(hs:s.size≤9223372036854775807) :
  Calls Tryz.prog 131 #[.string s,.string ⟨#[c]⟩] w fun e w'=>e=.returned (.string ⟨(Lib.trimRightB s.data.toList c).toArray⟩)∧w'=w:=Any.strings_TrimRight_one Tryz.lays162 s c hc w hs
def Tryz.lays160_ren:Go.Shelf.Ren:=⟨fun|160=>82|232=>124|231=>123|227=>125|234=>127|233=>126|236=>129|235=>128|228=>167|271=>170|151=>169|197=>168|120=>195|152=>194|260=>193|137=>210|119=>211|224=>201|225=>200|217=>199|266=>214|n=>n,fun|9=>9|4=>4|3=>3|5=>5|117=>196|116=>195|0=>0|124=>199|21=>21|105=>233|46=>201|119=>261|139=>264|138=>263|n=>n,fun|3=>2|4=>3|n=>n⟩
theorem Tryz.lays160:Go.Proofs.Lays.n160 Tryz.prog Tryz.lays160_ren:={
 mixed:=by kernel_rfl
 f119:=Tryz.func211.trans (congrArg some (by kernel_rfl))
 f120:=Tryz.func195.trans (congrArg some (by kernel_rfl))
 f137:=Tryz.func210.trans (congrArg some (by kernel_rfl))
 f151:=Tryz.func169.trans (congrArg some (by kernel_rfl))
 f152:=Tryz.func194.trans (congrArg some (by kernel_rfl))
 f160:=Tryz.func82.trans (congrArg some (by kernel_rfl))
 f197:=Tryz.func168.trans (congrArg some (by kernel_rfl))
 f217:=Tryz.func199.trans (congrArg some (by kernel_rfl))
 f224:=Tryz.func201.trans (congrArg some (by kernel_rfl))
 f225:=Tryz.func200.trans (congrArg some (by kernel_rfl))
 f227:=Tryz.func125.trans (congrArg some (by kernel_rfl))
 f228:=Tryz.func167.trans (congrArg some (by kernel_rfl))
 f231:=Tryz.func123.trans (congrArg some (by kernel_rfl))
 f232:=Tryz.func124.trans (congrArg some (by kernel_rfl))
 f233:=Tryz.func126.trans (congrArg some (by kernel_rfl))
 f234:=Tryz.func127.trans (congrArg some (by kernel_rfl))
 f235:=Tryz.func128.trans (congrArg some (by kernel_rfl))
 f236:=Tryz.func129.trans (congrArg some (by kernel_rfl))
 f260:=Tryz.func193.trans (congrArg some (by kernel_rfl))
 f266:=Tryz.func214.trans (congrArg some (by kernel_rfl))
 f271:=Tryz.func170.trans (congrArg some (by kernel_rfl))
 t0:=Tryz.underlying0
 a0:=Tryz.isAgg0
 z0:=Tryz.sizeOf0
 v0:=Tryz.zeroValue0
 t3:=Tryz.underlying3
 a3:=Tryz.isAgg3
 z3:=Tryz.sizeOf3
 v3:=Tryz.zeroValue3
 t4:=Tryz.underlying4
 a4:=Tryz.isAgg4
 z4:=Tryz.sizeOf4
 v4:=Tryz.zeroValue4
 t5:=Tryz.underlying5
 a5:=Tryz.isAgg5
 z5:=Tryz.sizeOf5
 v5:=Tryz.zeroValue5
 t9:=Tryz.underlying9
 a9:=Tryz.isAgg9
 z9:=Tryz.sizeOf9
 v9:=Tryz.zeroValue9
 t21:=Tryz.underlying21
 a21:=Tryz.isAgg21
 z21:=Tryz.sizeOf21
 v21:=Tryz.zeroValue21
 t46:=Tryz.underlying201
 a46:=Tryz.isAgg201
 z46:=Tryz.sizeOf201
 v46:=Tryz.zeroValue201
 t105:=Tryz.underlying233
 a105:=Tryz.isAgg233
 z105:=Tryz.sizeOf233
 v105:=Tryz.zeroValue233
 t116:=Tryz.underlying195
 a116:=Tryz.isAgg195
 z116:=Tryz.sizeOf195
 t117:=Tryz.underlying196
 a117:=Tryz.isAgg196
 z117:=Tryz.sizeOf196
 v117:=Tryz.zeroValue196
 t119:=Tryz.underlying261
 a119:=Tryz.isAgg261
 z119:=Tryz.sizeOf261
 t124:=Tryz.underlying199
 a124:=Tryz.isAgg199
 z124:=Tryz.sizeOf199
 v124:=Tryz.zeroValue199
 t138:=Tryz.underlying263
 a138:=Tryz.isAgg263
 z138:=Tryz.sizeOf263
 v138:=Tryz.zeroValue263
 t139:=Tryz.underlying264
 a139:=Tryz.isAgg264
 z139:=Tryz.sizeOf264
 v139:=Tryz.zeroValue264
 g3:=by kernel_rfl
 g4:=by kernel_rfl }
def Tryz.lays103_ren:Go.Shelf.Ren:=⟨fun|103=>81|210=>122|206=>166|n=>n,fun|9=>9|4=>4|24=>69|3=>3|n=>n,fun|n=>n⟩
theorem Tryz.lays103:Go.Proofs.Lays.n103 Tryz.prog Tryz.lays103_ren:={
 mixed:=by kernel_rfl
 f103:=Tryz.func81.trans (congrArg some (by kernel_rfl))
 f206:=Tryz.func166.trans (congrArg some (by kernel_rfl))
 f210:=Tryz.func122.trans (congrArg some (by kernel_rfl))
 t3:=Tryz.underlying3
 a3:=Tryz.isAgg3
 z3:=Tryz.sizeOf3
 v3:=Tryz.zeroValue3
 t4:=Tryz.underlying4
 a4:=Tryz.isAgg4
 z4:=Tryz.sizeOf4
 v4:=Tryz.zeroValue4
 t9:=Tryz.underlying9
 a9:=Tryz.isAgg9
 z9:=Tryz.sizeOf9
 v9:=Tryz.zeroValue9
 t24:=Tryz.underlying69
 a24:=Tryz.isAgg69
 z24:=Tryz.sizeOf69
 v24:=Tryz.zeroValue69 }
open Go.RowKit in
theorem Tryz.strings_CutPrefix (s p:ByteArray)(w:World) :
  Calls Tryz.prog 81 #[.string s,.string p] w fun e w'=>e=.returned (.tuple #[.string ⟨(Lib.trimPrefix s.data.toList p.data.toList).toArray⟩,.bool (Lib.hasPrefix s.data.toList p.data.toList)])∧w'=w:=Any.strings_CutPrefix Tryz.lays103 s p w
def Tryz.lays121_ren:Go.Shelf.Ren:=⟨fun|121=>93|214=>145|n=>n,fun|4=>4|9=>9|n=>n,fun|n=>n⟩
theorem Tryz.lays121:Go.Proofs.Lays.n121 Tryz.prog Tryz.lays121_ren:={
 mixed:=by kernel_rfl
 f121:=Tryz.func93.trans (congrArg some (by kernel_rfl))
 f214:=Tryz.func145.trans (congrArg some (by kernel_rfl))
 t4:=Tryz.underlying4
 a4:=Tryz.isAgg4
 z4:=Tryz.sizeOf4
 v4:=Tryz.zeroValue4
 t9:=Tryz.underlying9
 a9:=Tryz.isAgg9
 z9:=Tryz.sizeOf9
 v9:=Tryz.zeroValue9 }
open Go.RowKit in
theorem Tryz.strconv_FormatBool (b:Bool)(w:World) :
  Calls Tryz.prog 93 #[.bool b] w fun e w'=>e=.returned (.string ⟨(Lib.formatBool b).toArray⟩)∧w'=w:=Any.strconv_FormatBool Tryz.lays121 b w
open Go.RowKit in
theorem Tryz.Builder_String_any_k (B b:Nat)(l:List UInt8)(w:World)(h:Lib.IsBuilderF 99 5 B b (Lib.byteCells l) w)(hBw:B≤w.heap.size) :
  Calls Tryz.prog 40 #[.pointer (some ⟨b,0,none⟩)] w fun e w'=>e=.returned (.string ⟨l.toArray⟩)∧(Lib.IsBuilderF 99 5 B b (Lib.byteCells l) w'∧Below B w w'∧Lib.OthersKept 5 (some b) w w'):=Any.Builder_String_any_k Tryz.lays169 Tryz.Builder_Extra_169 B b l w h hBw
def Tryz.lays171_ren:Go.Shelf.Ren:=⟨fun|171=>80|243=>121|246=>165|283=>189|284=>190|285=>191|286=>192|129=>206|317=>205|318=>207|319=>208|320=>209|337=>217|338=>218|n=>n,fun|3=>3|9=>9|2=>2|4=>4|171=>248|0=>0|53=>153|37=>97|5=>5|173=>251|212=>258|51=>200|20=>20|213=>259|46=>201|232=>270|233=>271|n=>n,fun|17=>1|18=>4|19=>5|n=>n⟩
theorem Tryz.lays171:Go.Proofs.Lays.n171 Tryz.prog Tryz.lays171_ren:={
 mixed:=by kernel_rfl
 f129:=Tryz.func206.trans (congrArg some (by kernel_rfl))
 f171:=Tryz.func80.trans (congrArg some (by kernel_rfl))
 f243:=Tryz.func121.trans (congrArg some (by kernel_rfl))
 f246:=Tryz.func165.trans (congrArg some (by kernel_rfl))
 f283:=Tryz.func189.trans (congrArg some (by kernel_rfl))
 f284:=Tryz.func190.trans (congrArg some (by kernel_rfl))
 f285:=Tryz.func191.trans (congrArg some (by kernel_rfl))
 f286:=Tryz.func192.trans (congrArg some (by kernel_rfl))
 f317:=Tryz.func205.trans (congrArg some (by kernel_rfl))
 f318:=Tryz.func207.trans (congrArg some (by kernel_rfl))
 f319:=Tryz.func208.trans (congrArg some (by kernel_rfl))
 f320:=Tryz.func209.trans (congrArg some (by kernel_rfl))
 f337:=Tryz.func217.trans (congrArg some (by kernel_rfl))
 f338:=Tryz.func218.trans (congrArg some (by kernel_rfl))
 t0:=Tryz.underlying0
 a0:=Tryz.isAgg0
 z0:=Tryz.sizeOf0
 v0:=Tryz.zeroValue0
 t2:=Tryz.underlying2
 a2:=Tryz.isAgg2
 z2:=Tryz.sizeOf2
 v2:=Tryz.zeroValue2
 t3:=Tryz.underlying3
 a3:=Tryz.isAgg3
 z3:=Tryz.sizeOf3
 v3:=Tryz.zeroValue3
 t4:=Tryz.underlying4
 a4:=Tryz.isAgg4
 z4:=Tryz.sizeOf4
 v4:=Tryz.zeroValue4
 t5:=Tryz.underlying5
 a5:=Tryz.isAgg5
 z5:=Tryz.sizeOf5
 v5:=Tryz.zeroValue5
 t9:=Tryz.underlying9
 a9:=Tryz.isAgg9
 z9:=Tryz.sizeOf9
 v9:=Tryz.zeroValue9
 t20:=Tryz.underlying20
 a20:=Tryz.isAgg20
 z20:=Tryz.sizeOf20
 v20:=Tryz.zeroValue20
 t37:=Tryz.underlying97
 a37:=Tryz.isAgg97
 z37:=Tryz.sizeOf97
 v37:=Tryz.zeroValue97
 t46:=Tryz.underlying201
 a46:=Tryz.isAgg201
 z46:=Tryz.sizeOf201
 v46:=Tryz.zeroValue201
 t51:=Tryz.underlying200
 a51:=Tryz.isAgg200
 z51:=Tryz.sizeOf200
 v51:=Tryz.zeroValue200
 t53:=Tryz.underlying153
 a53:=Tryz.isAgg153
 z53:=Tryz.sizeOf153
 v53:=Tryz.zeroValue153
 t171:=Tryz.underlying248
 a171:=Tryz.isAgg248
 z171:=Tryz.sizeOf248
 v171:=Tryz.zeroValue248
 t173:=Tryz.underlying251
 a173:=Tryz.isAgg251
 z173:=Tryz.sizeOf251
 v173:=Tryz.zeroValue251
 t212:=Tryz.underlying258
 a212:=Tryz.isAgg258
 z212:=Tryz.sizeOf258
 v212:=Tryz.zeroValue258
 t213:=Tryz.underlying259
 a213:=Tryz.isAgg259
 z213:=Tryz.sizeOf259
 t232:=Tryz.underlying270
 a232:=Tryz.isAgg270
 z232:=Tryz.sizeOf270
 v232:=Tryz.zeroValue270
 t233:=Tryz.underlying271
 a233:=Tryz.isAgg271
 z233:=Tryz.sizeOf271
 v233:=Tryz.zeroValue271
 g17:=by kernel_rfl
 g18:=by kernel_rfl
 g19:=by kernel_rfl }
open Go.RowKit Go.Sort Go.Lib in
theorem Tryz.strconv_Itoa_small (i:Nat)(hi:i<100)(w:World) :
  Calls Tryz.prog 80 #[.int .i64 i] w fun e w'=>e=.returned (.string ⟨(Lib.decDigits i).toArray⟩)∧w'=w:=Any.strconv_Itoa_small Tryz.lays171 i hi w
def Tryz.lays143_ren:Go.Shelf.Ren:=⟨fun|143=>151|219=>181|217=>199|225=>200|224=>201|267=>202|266=>214|314=>215|n=>n,fun|9=>9|3=>3|4=>4|5=>5|46=>201|146=>266|51=>200|n=>n,fun|1=>0|n=>n⟩
theorem Tryz.lays143:Go.Proofs.Lays.n143 Tryz.prog Tryz.lays143_ren:={
 mixed:=by kernel_rfl
 f143:=Tryz.func151.trans (congrArg some (by kernel_rfl))
 f217:=Tryz.func199.trans (congrArg some (by kernel_rfl))
 f219:=Tryz.func181.trans (congrArg some (by kernel_rfl))
 f224:=Tryz.func201.trans (congrArg some (by kernel_rfl))
 f225:=Tryz.func200.trans (congrArg some (by kernel_rfl))
 f266:=Tryz.func214.trans (congrArg some (by kernel_rfl))
 f267:=Tryz.func202.trans (congrArg some (by kernel_rfl))
 f314:=Tryz.func215.trans (congrArg some (by kernel_rfl))
 t3:=Tryz.underlying3
 a3:=Tryz.isAgg3
 z3:=Tryz.sizeOf3
 v3:=Tryz.zeroValue3
 t4:=Tryz.underlying4
 a4:=Tryz.isAgg4
 z4:=Tryz.sizeOf4
 v4:=Tryz.zeroValue4
 t5:=Tryz.underlying5
 a5:=Tryz.isAgg5
 z5:=Tryz.sizeOf5
 v5:=Tryz.zeroValue5
 t9:=Tryz.underlying9
 a9:=Tryz.isAgg9
 z9:=Tryz.sizeOf9
 v9:=Tryz.zeroValue9
 t46:=Tryz.underlying201
 a46:=Tryz.isAgg201
 z46:=Tryz.sizeOf201
 v46:=Tryz.zeroValue201
 t51:=Tryz.underlying200
 a51:=Tryz.isAgg200
 z51:=Tryz.sizeOf200
 v51:=Tryz.zeroValue200
 t146:=Tryz.underlying266
 a146:=Tryz.isAgg266
 z146:=Tryz.sizeOf266
 v146:=Tryz.zeroValue266
 g1:=by kernel_rfl }
open Go.RowKit Go.Lib in
theorem Tryz.strings_Index_one (s:ByteArray)(c:UInt8)(w:World) :
  Calls Tryz.prog 151 #[.string s,.string ⟨#[c]⟩] w fun e w'=>e=.returned (.int .i64 (Lib.indexByte s.data.toList c))∧w'=w:=Any.strings_Index_one Tryz.lays143 s c w
def Tryz.lays99_ren:Go.Shelf.Ren:=⟨fun|99=>150|206=>166|n=>n,fun|9=>9|4=>4|3=>3|n=>n,fun|n=>n⟩
theorem Tryz.lays99:Go.Proofs.Lays.n99 Tryz.prog Tryz.lays99_ren:={
 mixed:=by kernel_rfl
 f99:=Tryz.func150.trans (congrArg some (by kernel_rfl))
 f206:=Tryz.func166.trans (congrArg some (by kernel_rfl))
 t3:=Tryz.underlying3
 a3:=Tryz.isAgg3
 z3:=Tryz.sizeOf3
 v3:=Tryz.zeroValue3
 t4:=Tryz.underlying4
 a4:=Tryz.isAgg4
 z4:=Tryz.sizeOf4
 v4:=Tryz.zeroValue4
 t9:=Tryz.underlying9
 a9:=Tryz.isAgg9
 z9:=Tryz.sizeOf9
 v9:=Tryz.zeroValue9 }
open Go.RowKit Go.Lib in
theorem Tryz.strings_HasPrefix (s p:ByteArray)(w:World) :
  Calls Tryz.prog 150 #[.string s,.string p] w fun e w'=>e=.returned (.bool (Lib.hasPrefix s.data.toList p.data.toList))∧w'=w:=Any.strings_HasPrefix Tryz.lays99 s p w
def Tryz.lays110_ren:Go.Shelf.Ren:=⟨fun|110=>157|109=>186|n=>n,fun|31=>71|9=>9|4=>4|3=>3|0=>0|n=>n,fun|n=>n⟩
theorem Tryz.lays110:Go.Proofs.Lays.n110 Tryz.prog Tryz.lays110_ren:={
 mixed:=by kernel_rfl
 f109:=Tryz.func186.trans (congrArg some (by kernel_rfl))
 f110:=Tryz.func157.trans (congrArg some (by kernel_rfl))
 t0:=Tryz.underlying0
 a0:=Tryz.isAgg0
 z0:=Tryz.sizeOf0
 v0:=Tryz.zeroValue0
 t3:=Tryz.underlying3
 a3:=Tryz.isAgg3
 z3:=Tryz.sizeOf3
 v3:=Tryz.zeroValue3
 t4:=Tryz.underlying4
 a4:=Tryz.isAgg4
 z4:=Tryz.sizeOf4
 v4:=Tryz.zeroValue4
 t9:=Tryz.underlying9
 a9:=Tryz.isAgg9
 z9:=Tryz.sizeOf9
 v9:=Tryz.zeroValue9
 t31:=Tryz.underlying71
 a31:=Tryz.isAgg71
 z31:=Tryz.sizeOf71
 v31:=Tryz.zeroValue71 }
open Go.Lib in
theorem Tryz.slices_Contains_string (b off n c:Nat)(zs:List ByteArray)(x:ByteArray)(w:World)(hz:n≤zs.length)(hbig:n≤9223372036854775807)(hc:∀ j,j<zs.length→w.cell? ⟨b,off+j,none⟩=some (.string (zs.getD j ByteArray.empty))) :
  Calls Tryz.prog 157 #[.slice (some ⟨b,off,none⟩) n c,.string x] w fun e w'=>e=.returned (.bool (Lib.containsS (zs.take n) x))∧w'=w:=Any.slices_Contains_string Tryz.lays110 b off n c zs x w hz hbig hc
def Tryz.laysNm215_ren:Go.Shelf.Ren:=⟨fun|15=>107|n=>n,fun|22=>80|3=>3|4=>4|n=>n,fun|n=>n⟩
theorem Tryz.laysNm215:Go.Proofs.Lays2.n15 Tryz.prog Tryz.laysNm215_ren:={
 mixed:=by kernel_rfl
 f15:=Tryz.func107.trans (congrArg some (by kernel_rfl))
 t3:=Tryz.underlying3
 a3:=Tryz.isAgg3
 z3:=Tryz.sizeOf3
 v3:=Tryz.zeroValue3
 t4:=Tryz.underlying4
 a4:=Tryz.isAgg4
 z4:=Tryz.sizeOf4
 v4:=Tryz.zeroValue4
 t22:=Tryz.underlying80
 a22:=Tryz.isAgg80
 z22:=Tryz.sizeOf80
 v22:=Tryz.zeroValue80
 i3:=by kernel_rfl }
open Go.RowKit Go.Lib in
theorem Tryz.slices_Clone_int (b off n c:Nat)(zs:List Int)(w:World)(hz:n≤zs.length)(hbig:n * 8≤140737488355328)(hc:∀ j,j<zs.length→w.cell? ⟨b,off+j,none⟩=some (.int .i64 (zs.getD j 0))) :
  Calls Tryz.prog 107 #[.slice (some ⟨b,off,none⟩) n c] w fun e w'=>∃ v',e=.returned v'∧w'.ownsRow w.heap.size 3 1 v' n ((zs.take n).map (Value.int .i64))∧v'≠.slice none 0 0∧Below w.heap.size w w':=Any.slices_Clone_int Tryz.laysNm215 b off n c zs w hz hbig hc
open Go.RowKit Go.Lib in
theorem Tryz.slices_Clone_int_nil (n c:Nat)(w:World) :
  Calls Tryz.prog 107 #[.slice none n c] w fun e w'=>e=.returned (.slice none 0 0)∧w'=w:=Any.slices_Clone_int_nil Tryz.laysNm215 n c w
open Go.RowKit Go.Lib in
theorem Tryz.slices_Clone_int_zero (a:Addr)(c:Nat)(w:World) :
  Calls Tryz.prog 107 #[.slice (some a) 0 c] w fun e w'=>∃ v',e=.returned v'∧w'.ownsRow w.heap.size 3 1 v' 0 []∧v'≠.slice none 0 0∧Below w.heap.size w w':=Any.slices_Clone_int_zero Tryz.laysNm215 a c w
def Tryz.lays2x26_ren:Go.Shelf.Ren:=⟨fun|26=>185|33=>203|34=>204|38=>216|n=>n,fun|24=>71|9=>9|3=>3|4=>4|40=>201|0=>0|n=>n,fun|n=>n⟩
theorem Tryz.lays2x26:Go.Proofs.Lays2.n26 Tryz.prog Tryz.lays2x26_ren:={
 mixed:=by kernel_rfl
 f26:=Tryz.func185.trans (congrArg some (by kernel_rfl))
 f33:=Tryz.func203.trans (congrArg some (by kernel_rfl))
 f34:=Tryz.func204.trans (congrArg some (by kernel_rfl))
 f38:=Tryz.func216.trans (congrArg some (by kernel_rfl))
 t0:=Tryz.underlying0
 a0:=Tryz.isAgg0
 z0:=Tryz.sizeOf0
 v0:=Tryz.zeroValue0
 t3:=Tryz.underlying3
 a3:=Tryz.isAgg3
 z3:=Tryz.sizeOf3
 v3:=Tryz.zeroValue3
 t4:=Tryz.underlying4
 a4:=Tryz.isAgg4
 z4:=Tryz.sizeOf4
 v4:=Tryz.zeroValue4
 t9:=Tryz.underlying9
 a9:=Tryz.isAgg9
 z9:=Tryz.sizeOf9
 v9:=Tryz.zeroValue9
 t24:=Tryz.underlying71
 a24:=Tryz.isAgg71
 z24:=Tryz.sizeOf71
 v24:=Tryz.zeroValue71
 t40:=Tryz.underlying201
 a40:=Tryz.isAgg201
 z40:=Tryz.sizeOf201
 v40:=Tryz.zeroValue201 }
end Go.Proofs

namespace Go.Proofs.YtdednahplodojaaGreatDoor
open Go.RowKit
theorem letterB_cases (c:UInt8):letterB c=((decide (97≤(c.toNat:Int)) && decide ((c.toNat:Int)≤122)) || (decide (65≤(c.toNat:Int)) && decide ((c.toNat:Int)≤90))):=by
  have h1:(97≤c)↔(97≤(c.toNat:Int)):=by rw [UInt8.le_iff_toNat_le];show 97≤c.toNat↔_;omega
  have h2:(c≤122)↔((c.toNat:Int)≤122):=by rw [UInt8.le_iff_toNat_le];show c.toNat≤122↔_;omega
  have h3:(65≤c)↔(65≤(c.toNat:Int)):=by rw [UInt8.le_iff_toNat_le];show 65≤c.toNat↔_;omega
  have h4:(c≤90)↔((c.toNat:Int)≤90):=by rw [UInt8.le_iff_toNat_le];show c.toNat≤90↔_;omega
  simp only [letterB,h1,h2,h3,h4]
theorem digitB_cases (c:UInt8):digitB c=(decide (48≤(c.toNat:Int)) && decide ((c.toNat:Int)≤57)):=by
  have h1:(48≤c)↔(48≤(c.toNat:Int)):=by rw [UInt8.le_iff_toNat_le];show 48≤c.toNat↔_;omega
  have h2:(c≤57)↔((c.toNat:Int)≤57):=by rw [UInt8.le_iff_toNat_le];show c.toNat≤57↔_;omega
  simp only [digitB,h1,h2]
theorem u8_eq (c:UInt8)(k:UInt8):(c == k)=((c.toNat:Int) == (k.toNat:Int)):=by
  rw [Bool.eq_iff_iff,beq_iff_eq,beq_iff_eq,← UInt8.toNat_inj]
  omega
theorem letter_any (c:UInt8)(w:World):Calls Tryz.prog 152 #[.int .u8 c.toNat] w fun e w'=>e=.returned (.bool (letterB c))∧w'=w:=by
  rw [letterB_cases]
  go_enter Tryz.func152,Tryz.ntmps152
  go_wp2
  all_goals (go_ret;refine ⟨ret_bool ?_,rfl⟩;simp;try omega)
theorem digit_any (c:UInt8)(w:World):Calls Tryz.prog 154 #[.int .u8 c.toNat] w fun e w'=>e=.returned (.bool (digitB c))∧w'=w:=by
  rw [digitB_cases]
  go_enter Tryz.func154,Tryz.ntmps154
  go_wp2
  all_goals (go_ret;refine ⟨ret_bool ?_,rfl⟩;simp;try omega)
theorem inside_any (c:UInt8)(w:World):Calls Tryz.prog 183 #[.int .u8 c.toNat] w fun e w'=>e=.returned (.bool (insideB c))∧w'=w:=by
  have hq:insideB c=(letterB c || digitB c || ((c.toNat:Int) == 95)):=by rw [insideB,u8_eq];rfl
  rw [hq]
  clear hq
  generalize hL:letterB c=L
  generalize hD:digitB c=D
  cases L <;> cases D <;>
  (go_enter Tryz.func183,Tryz.ntmps183
   go_wp2_with (first|(go_at_call 152;refine (letter_any c _).mono ?_;rintro e w' ⟨rfl,rfl⟩;rw [hL])|(go_at_call 154;refine (digit_any c _).mono ?_;rintro e w' ⟨rfl,rfl⟩;rw [hD]))
   all_goals (go_ret;refine ⟨ret_bool ?_,rfl⟩;simp))
def runL (p:UInt8→Bool)(s:ByteArray):Nat:=(s.data.toList.takeWhile p).length
theorem take_more (p:UInt8→Bool):∀ (T:List UInt8) (k:Nat),k≤(T.takeWhile p).length→(k<(T.takeWhile p).length↔∃ c,T[k]?=some c∧p c=true)
  | [],k,hk=>by simp
  | c :: r,0,hk=>by
    by_cases h:p c=true
    · simp [List.takeWhile_cons_of_pos h,h]
    · simp [List.takeWhile_cons_of_neg h,h]
  | c :: r,k+1,hk=>by
    by_cases h:p c=true
    · rw [List.takeWhile_cons_of_pos h,List.length_cons] at hk ⊢
      have:=take_more p r k (by omega)
      simp only [List.getElem?_cons_succ]
      rw [← this]
      omega
    · rw [List.takeWhile_cons_of_neg h] at hk
      simp at hk
theorem byte_is {s:ByteArray}{i:Nat}(hi:i<s.size):s.data.toList[i]?=some (s[i]'hi):=by
  rw [List.getElem?_eq_getElem (by rw [Lib.size_eq] at hi;exact hi)]
  rfl
theorem run_inside (s:ByteArray)(w:World)(hs:s.size≤1099511627776) :
    Calls Tryz.prog 182 #[.string s,.func (.func 183) #[] #[]] w fun e w'=>e=.returned (.string (s.extract 0 (runL insideB s)))∧w'=w:=by
  have hr:runL insideB s≤s.size:=by rw [Lib.size_eq];exact takeWhile_le insideB _
  go_enter Tryz.func182,Tryz.ntmps182
  go_wp2
  go_loop [5] (fun n=>∃ k:Nat,n=.int .i64 k∧k≤runL insideB s) (fun n=>s.size - (intOf n).toNat)
  case atStart=>exact ⟨0,rfl,Nat.zero_le _⟩
  case round =>
    obtain ⟨k,rfl,hk⟩:=hrel
    have hm:=take_more insideB s.data.toList k hk
    by_cases hlt:k<s.size
    · have hI:(k:Int) < ↑s.size:=by omega
      have hD:decide ((k:Int) < ↑s.size)=true:=decide_eq_true hI
      rw [byte_is hlt] at hm
      by_cases hp:insideB (s[k]'hlt)=true
      · have hk1:k<runL insideB s:=hm.2 ⟨_,rfl,hp⟩
        have HM:=Lib.hid hm
        clear hm
        go_wp2_with (go_at_call 183;refine (inside_any _ _).mono ?_;rintro e w1 ⟨rfl,rfl⟩)
        go_round
        case rel=>exact ⟨k+1,by go_num,by omega⟩
        case measure=>simp [intOf];omega
      · have hk1:k=runL insideB s:=by
          rcases Nat.lt_or_ge k (runL insideB s) with h|h
          · obtain ⟨c,h1,h2⟩:=hm.1 h
            injection h1 with h1
            subst h1
            exact absurd h2 hp
          · omega
        have hp':insideB (s[k]'hlt)=false:=by simpa using hp
        have HK:=Lib.hid hk1
        clear hm hp hk1
        go_wp2_with (go_at_call 183;refine (inside_any _ _).mono ?_;rintro e w1 ⟨rfl,rfl⟩)
        go_ret
        exact ⟨by rw [← HK.out];rfl,rfl⟩
    · have hk1:k=runL insideB s:=by omega
      have hD:decide ((k:Int) < ↑s.size)=false:=decide_eq_false (by omega)
      have HK:=Lib.hid hk1
      clear hm hk1
      go_wp2
      go_ret
      exact ⟨by rw [← HK.out];rfl,rfl⟩
theorem run_digit (s:ByteArray)(w:World)(hs:s.size≤1099511627776) :
    Calls Tryz.prog 182 #[.string s,.func (.func 154) #[] #[]] w fun e w'=>e=.returned (.string (s.extract 0 (runL digitB s)))∧w'=w:=by
  have hr:runL digitB s≤s.size:=by rw [Lib.size_eq];exact takeWhile_le digitB _
  go_enter Tryz.func182,Tryz.ntmps182
  go_wp2
  go_loop [5] (fun n=>∃ k:Nat,n=.int .i64 k∧k≤runL digitB s) (fun n=>s.size - (intOf n).toNat)
  case atStart=>exact ⟨0,rfl,Nat.zero_le _⟩
  case round =>
    obtain ⟨k,rfl,hk⟩:=hrel
    have hm:=take_more digitB s.data.toList k hk
    by_cases hlt:k<s.size
    · have hI:(k:Int) < ↑s.size:=by omega
      have hD:decide ((k:Int) < ↑s.size)=true:=decide_eq_true hI
      rw [byte_is hlt] at hm
      by_cases hp:digitB (s[k]'hlt)=true
      · have hk1:k<runL digitB s:=hm.2 ⟨_,rfl,hp⟩
        have HM:=Lib.hid hm
        clear hm
        go_wp2_with (go_at_call 154;refine (digit_any _ _).mono ?_;rintro e w1 ⟨rfl,rfl⟩)
        go_round
        case rel=>exact ⟨k+1,by go_num,by omega⟩
        case measure=>simp [intOf];omega
      · have hk1:k=runL digitB s:=by
          rcases Nat.lt_or_ge k (runL digitB s) with h|h
          · obtain ⟨c,h1,h2⟩:=hm.1 h
            injection h1 with h1
            subst h1
            exact absurd h2 hp
          · omega
        have hp':digitB (s[k]'hlt)=false:=by simpa using hp
        have HK:=Lib.hid hk1
        clear hm hp hk1
        go_wp2_with (go_at_call 154;refine (digit_any _ _).mono ?_;rintro e w1 ⟨rfl,rfl⟩)
        go_ret
        exact ⟨by rw [← HK.out];rfl,rfl⟩
    · have hk1:k=runL digitB s:=by omega
      have hD:decide ((k:Int) < ↑s.size)=false:=decide_eq_false (by omega)
      have HK:=Lib.hid hk1
      clear hm hk1
      go_wp2
      go_ret
      exact ⟨by rw [← HK.out];rfl,rfl⟩
theorem blankB_set:∀ c:UInt8,blankB c=([32,9,13,10]:List UInt8).contains c:=by
 intro c
 simp only [blankB,List.contains_cons,List.contains_nil,Bool.or_false,Bool.or_assoc]
theorem trim_any (s:ByteArray)(w:World):Calls Tryz.prog 149 #[.string s,.string ⟨#[32,9,13,10]⟩] w fun e w'=>e=.returned (.string ⟨(s.data.toList.dropWhile blankB).toArray⟩)∧Below w.heap.size w w':=by
 have h:=Any.strings_TrimLeft_laid Tryz.lays161 (by kernel_rfl) s ⟨#[32,9,13,10]⟩ w (by decide) (ascii_of_all (by decide))
 have e:Lib.trimLeftS s.data.toList (ByteArray.mk #[32,9,13,10]).data.toList=s.data.toList.dropWhile blankB:=by
  unfold Lib.trimLeftS
  congr 1
  funext c
  exact (blankB_set c).symm
 rw [e] at h
 exact h
theorem drop_blanks (T:List UInt8):T.dropWhile blankB=T.drop (T.takeWhile blankB).length:=by
 induction T with
 | nil=>rfl
 | cons c r ih =>
  by_cases h:blankB c=true
  ·rw [List.dropWhile_cons_of_pos h,List.takeWhile_cons_of_pos h,ih];rfl
  ·rw [List.dropWhile_cons_of_neg h,List.takeWhile_cons_of_neg h];rfl
theorem take_none (T:List UInt8):(T.dropWhile blankB).takeWhile blankB=[]:=by
 cases h:T.dropWhile blankB with
 | nil=>rfl
 | cons c r =>
  have:=List.head?_dropWhile_not blankB T
  rw [h] at this
  simp only [List.head?_cons] at this
  rw [List.takeWhile_cons_of_neg (by simpa using this)]
theorem pre_one (T:List UInt8)(i:Nat)(h:[45,45] <+: T)(hi:T[i]?=some 10):0<i:=by
 obtain ⟨r,rfl⟩:=h
 cases i with
 | zero=>cases hi
 | succ i=>omega
theorem between_any (s:ByteArray)(w:World)(hs:s.size≤1099511627776) :
  Calls Tryz.prog 104 #[.string s] w fun e w'=>e=.returned (.string (s.extract 0 (leadF false s.data.toList)))∧Below w.heap.size w w':=by
 have hle:=leadF_le false s.data.toList
 rw [← Lib.size_eq] at hle
 go_enter Tryz.func104,Tryz.ntmps104
 go_wp2
 go_loopw [3] (fun r wr=>∃ (d:Nat) (x:ByteArray),r=.string x∧d≤s.size∧x.data.toList=s.data.toList.drop d∧leadF false s.data.toList=d+leadF false (s.data.toList.drop d)∧Below w.heap.size w wr) (fun r _=>strLen r)
 case atStart=>exact ⟨0,s,rfl,Nat.zero_le _,rfl,by simp,Below.refl _ _⟩
 case round =>
  obtain ⟨d,x,rfl,hd,hx,hl,hb⟩:=hrel
  have hz:=hb.size
  have hxs:x.size=s.size - d:=by rw [Lib.size_eq,hx,List.length_drop,← Lib.size_eq]
  rw [leadF_blanks (s.data.toList.drop d),← hx] at hl
  have hkl:=takeWhile_le blankB x.data.toList
  have hnone:=take_none x.data.toList
  have hdrop:=drop_blanks x.data.toList
  rw [← Lib.size_eq] at hkl
  generalize hk:(x.data.toList.takeWhile blankB).length=k at hl hkl hdrop
  generalize hy:(ByteArray.mk (x.data.toList.dropWhile blankB).toArray)=y
  have hyl:y.data.toList=x.data.toList.dropWhile blankB:=by rw [← hy]
  have hys:y.size=s.size - (d+k):=by rw [Lib.size_eq,hyl,hdrop,List.length_drop,← Lib.size_eq,hxs];omega
  rw [← hyl] at hl hnone hdrop
  have HT:=Lib.hid (trim_any x wr)
  have HY:=Lib.hid hy
  by_cases hp:[45,45] <+: y.data.toList
  ·have hpre:Lib.hasPrefix y.data.toList (ByteArray.mk #[45,45]).data.toList=true:=List.isPrefixOf_iff_prefix.2 hp
   rw [leadF_remark _ hp] at hl
   rcases ten_cases y.data.toList with ⟨h1,h2⟩|⟨i,h1,h2,h3,h4⟩
   ·have HP:=Lib.hid (Tryz.strings_HasPrefix y ⟨#[45,45]⟩)
    have HI:=Lib.hid (Tryz.strings_Index_one y 10)
    have HJ:=Lib.hid h1
    rw [leadF_none _ h2,← Lib.size_eq,hys] at hl
    have HL:=Lib.hid hl
    have HB:=Lib.hid hpre
    clear hl hy hyl hx hnone hdrop hp hpre hk hle h1 h2
    go_wp2_with (first|(go_at_call 149;refine HT.out.mono ?_;rw [HY.out];rintro e w1 ⟨rfl,hb1⟩)|(go_at_call 150;refine (HP.out _).mono ?_;rw [HB.out];rintro e w2 ⟨rfl,rfl⟩)|(go_at_call 151;refine (HI.out _).mono ?_;rw [HJ.out];rintro e w2 ⟨rfl,rfl⟩))
    go_ret
    exact ⟨ret_str (by rw [HL.out];exact bytes_ext (by rw [show d+(k+(s.size - (d+k)))=s.size by omega,extract_end];rfl)),hb.trans (hb1.mono hz)⟩
   ·have HP:=Lib.hid (Tryz.strings_HasPrefix y ⟨#[45,45]⟩)
    have HI:=Lib.hid (Tryz.strings_Index_one y 10)
    have HJ:=Lib.hid h1
    rw [leadF_some i _ h2 h4] at hl
    rw [← Lib.size_eq] at h3
    have hi0:=pre_one _ _ hp h2
    have HL:=Lib.hid hl
    have HB:=Lib.hid hpre
    have hq:(y.extract i y.size).data.toList=s.data.toList.drop (d+k+i):=by
     rw [extract_end,hdrop,hx,List.drop_drop,List.drop_drop]
     congr 1
     omega
    have hq2:y.data.toList.drop i=s.data.toList.drop (d+k+i):=by rw [← hq,extract_end]
    have hes:(y.extract i y.size).size=y.size - i:=by rw [ByteArray.size_extract];omega
    rw [hys] at hq hes
    have HQ:=Lib.hid hq
    have HQ2:=Lib.hid hq2
    have HES:=Lib.hid hes
    clear hl hy hyl hx hnone hdrop hp hpre hk hle h1 h2 h4 hq hq2 hes
    go_wp2_with (first|(go_at_call 149;refine HT.out.mono ?_;rw [HY.out];rintro e w1 ⟨rfl,hb1⟩)|(go_at_call 150;refine (HP.out _).mono ?_;rw [HB.out];rintro e w2 ⟨rfl,rfl⟩)|(go_at_call 151;refine (HI.out _).mono ?_;rw [HJ.out];rintro e w2 ⟨rfl,rfl⟩))
    go_roundw
    case rel=>exact ⟨d+k+i,_,rfl,by omega,HQ.out,by rw [HL.out,HQ2.out];omega,hb.trans (hb1.mono hz)⟩
    case measure=>simp only [strLen];rw [HES.out];omega
  ·have hpre:Lib.hasPrefix y.data.toList (ByteArray.mk #[45,45]).data.toList=false:=by
    cases h:Lib.hasPrefix y.data.toList (ByteArray.mk #[45,45]).data.toList with
    | false=>rfl
    | true=>exact absurd (List.isPrefixOf_iff_prefix.1 h) hp
   rw [leadF_stop _ hp hnone,Nat.add_zero] at hl
   have HP:=Lib.hid (Tryz.strings_HasPrefix y ⟨#[45,45]⟩)
   have HL:=Lib.hid hl
   have HB:=Lib.hid hpre
   clear hl hy hyl hx hnone hdrop hp hpre hk hle
   go_wp2_with (first|(go_at_call 149;refine HT.out.mono ?_;rw [HY.out];rintro e w1 ⟨rfl,hb1⟩)|(go_at_call 150;refine (HP.out _).mono ?_;rw [HB.out];rintro e w2 ⟨rfl,rfl⟩))
   go_ret
   exact ⟨ret_str (by rw [HL.out];congr 1;omega),hb.trans (hb1.mono hz)⟩
def tokV (s:ByteArray)(t:Nat × Nat × Nat):Value:=.tuple #[.int .i64 t.1,.string (s.extract 0 t.2.1),.int .i64 t.2.2]
theorem ret_tok {s:ByteArray}{t:Nat × Nat × Nat}{a b:Int}{x:ByteArray}(h1:a=t.1)(h2:x=s.extract 0 t.2.1)(h3:b=t.2.2):Ending.returned (.tuple #[.int .i64 a,.string x,.int .i64 b])=.returned (tokV s t):=by
 rw [h1,h2,h3];rfl
theorem ext_none (s:ByteArray):(⟨#[]⟩:ByteArray)=s.extract 0 0:=bytes_ext (by rw [extract_list];rfl)
theorem ext_size (s:ByteArray)(k:Nat)(h:k≤s.size):(s.extract 0 k).size=k:=by rw [ByteArray.size_extract];omega
theorem take_takeWhile (p:UInt8→Bool)(T:List UInt8):T.take (T.takeWhile p).length=T.takeWhile p:=by
 obtain ⟨r,hr⟩:=List.takeWhile_prefix (p:=p) (l:=T)
 conv=>lhs;arg 2;rw [← hr]
 simp
theorem run_le (p:UInt8→Bool)(s:ByteArray):runL p s≤s.size:=by rw [Lib.size_eq];exact takeWhile_le p _
theorem run_list (p:UInt8→Bool)(s:ByteArray):(s.extract 0 (runL p s)).data.toList=s.data.toList.takeWhile p:=by
 rw [extract_list,List.drop_zero,runL,take_takeWhile]
theorem number_any (s:ByteArray)(w:World)(hs:s.size≤1099511627776) :
  Calls Tryz.prog 155 #[.string s] w fun e w'=>e=.returned (tokV s (numF s.data.toList))∧w'=w:=by
 have hr:=run_le digitB s
 have hn:=run_list digitB s
 have hz:=ext_size s _ hr
 have HR:=Lib.hid (run_digit s w hs)
 by_cases h60:60<runL digitB s
 ·have hq:numF s.data.toList=(0,0,21):=by rw [numF,if_pos (.inl h60)]
  have HQ:=Lib.hid hq
  generalize hy:s.extract 0 (runL digitB s)=y at HR hz
  have hI:(60:Int) < ↑y.size:=by omega
  have hD:decide ((60:Int) < ↑y.size)=true:=decide_eq_true hI
  clear hq hn hz
  go_enter Tryz.func155,Tryz.ntmps155
  go_wp2_with (go_at_call 182;refine HR.out.mono ?_;rintro e w1 ⟨rfl,rfl⟩)
  go_ret3
  refine ⟨ret_tok (t:=numF s.data.toList) ?_ ?_ ?_,rfl⟩ <;> rw [HQ.out]
  ·rfl
  ·exact ext_none s
  ·rfl
 ·by_cases h1:1<runL digitB s
  ·have h0:0<(s.extract 0 (runL digitB s)).size:=by omega
   generalize hy:s.extract 0 (runL digitB s)=y at HR hz hn h0
   have hb:=byte_is h0
   rw [hn] at hb
   have hI:¬ (60:Int) < ↑y.size:=by omega
   have hD:decide ((60:Int) < ↑y.size)=false:=decide_eq_false hI
   have hI1:(1:Int) < ↑y.size:=by omega
   have hD1:decide ((1:Int) < ↑y.size)=true:=decide_eq_true hI1
   by_cases hc:(y[0]'h0)=48
   ·have hq:numF s.data.toList=(0,0,21):=by rw [numF,if_pos (.inr ⟨h1,by rw [hb,hc]⟩)]
    have hE:(((y[0]'h0).toNat:Int) == 48)=true:=by rw [hc];rfl
    have HQ:=Lib.hid hq
    clear hq hn hb hc hz
    go_enter Tryz.func155,Tryz.ntmps155
    go_wp2_with (go_at_call 182;refine HR.out.mono ?_;rintro e w1 ⟨rfl,rfl⟩)
    go_ret3
    refine ⟨ret_tok (t:=numF s.data.toList) ?_ ?_ ?_,rfl⟩ <;> rw [HQ.out]
    ·rfl
    ·exact ext_none s
    ·rfl
   ·have hq:numF s.data.toList=(3,runL digitB s,0):=by
     rw [numF,if_neg]
     ·rfl
     ·rintro (h|⟨_,h⟩)
      ·exact h60 h
      ·rw [hb] at h;injection h with h;exact hc h
    have hE:(((y[0]'h0).toNat:Int) == 48)=false:=by
     rw [← Bool.not_eq_true,beq_iff_eq]
     intro h
     exact hc (UInt8.toNat_inj.1 (by show _=48;omega))
    have HQ:=Lib.hid hq
    have HY:=Lib.hid hy
    clear hq hn hb hc hy hz
    go_enter Tryz.func155,Tryz.ntmps155
    go_wp2_with (go_at_call 182;refine HR.out.mono ?_;rintro e w1 ⟨rfl,rfl⟩)
    go_ret3
    refine ⟨ret_tok (t:=numF s.data.toList) ?_ ?_ ?_,rfl⟩ <;> rw [HQ.out]
    ·rfl
    ·exact HY.out.symm
    ·rfl
  ·have hq:numF s.data.toList=(3,runL digitB s,0):=by
    rw [numF,if_neg]
    ·rfl
    ·rintro (h|⟨h,_⟩)
     ·exact h60 h
     ·exact h1 h
   generalize hy:s.extract 0 (runL digitB s)=y at HR hz
   have hI:¬ (60:Int) < ↑y.size:=by omega
   have hD:decide ((60:Int) < ↑y.size)=false:=decide_eq_false hI
   have hI1:¬ (1:Int) < ↑y.size:=by omega
   have hD1:decide ((1:Int) < ↑y.size)=false:=decide_eq_false hI1
   have HQ:=Lib.hid hq
   have HY:=Lib.hid hy
   clear hq hn hy hz
   go_enter Tryz.func155,Tryz.ntmps155
   go_wp2_with (go_at_call 182;refine HR.out.mono ?_;rintro e w1 ⟨rfl,rfl⟩)
   go_ret3
   refine ⟨ret_tok (t:=numF s.data.toList) ?_ ?_ ?_,rfl⟩ <;> rw [HQ.out]
   ·rfl
   ·exact HY.out.symm
   ·rfl
end Go.Proofs.YtdednahplodojaaGreatDoor
