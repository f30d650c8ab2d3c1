/-
  DERIVED: THE SHELF's CONTRACTS AT THIS DUMP, IN PLAIN WORDS (tools/lay-plain.mjs out of 'TryzShelf.lean', which tools/lay-shelf.mjs wrote): THE SAME DECLARATIONS UNDER THE SAME NAMES: 'import', 'namespace', 'open', 'def', 'theorem' AND NOTHING ELSE: no command of the shelf's: FOR A HAND-IN. Each laying: the table of numbers ('.._ren') and one theorem, a field a fact of the dump's own or the kernel's comparison; each contract: ONE APPLICATION.
-/
import Derived.Ground.SlmcProg
import Derived.Shelf.SlMaps.Clone
import Derived.Ground.GgzProg
import Derived.Shelf.SlIter.Nil
import Derived.Shelf.Unicode.ValidAny
import Derived.Shelf.Strings.Builder1
import Derived.Shelf.Strings.Builder2
import Derived.Shelf.Strings.Trim
import Derived.Shelf.Small.Utf8
import Derived.Shelf.Small.Bits
import Derived.Shelf.Small.Strs
import Derived.Shelf.Small.Wraps
import Derived.Shelf.Strings.BuilderF
import Derived.Shelf.Strings.BuilderK
import Derived.Shelf.Strings.BuilderRune
import Derived.Shelf.Utf8.AppendRune
import Derived.Shelf.Utf8.AppendRunePlain
import Derived.Shelf.Utf8.RuneCount
import Derived.Shelf.Strings.Builder2Cap
import Derived.Shelf.Strconv.Atoi
import Derived.Shelf.Strconv.Itoa0
import Derived.Shelf.Strconv.Itoa1
import Derived.Shelf.LaysM
import Derived.Shelf.Strconv.Itoa2
import Derived.Shelf.Strconv.Itoa3
import Derived.Shelf.Strconv.Itoa4
import Derived.Shelf.Strconv.AtoiErrFast
import Derived.Shelf.Strconv.ParseIntEmpty
import Derived.Shelf.Strconv.AtoiFail
import Derived.Shelf.Strconv.Clone
import Derived.Shelf.Strconv.SyntaxError
import Derived.Shelf.LaysC
import Derived.Shelf.Strconv.ToError
import Derived.Shelf.Strconv.AtoiErr
import Derived.Shelf.Strconv.ErrVar
import Derived.Shelf.Strconv.Lower
import Derived.Shelf.Strconv.ParseUint10
import Derived.Shelf.Strconv.ParseUint10Empty
import Derived.Shelf.Strconv.ParseUint10Any
import Derived.Shelf.Strconv.ParseInt10
import Derived.Shelf.Strconv.AtoiLong
import Derived.Shelf.Strconv.AtoiInnerAll
import Derived.Shelf.Strconv.RangeError
import Derived.Shelf.Strconv.ToErrorRange
import Derived.Shelf.Strconv.AtoiAll
import Derived.Shelf.Strconv.ErrVarAll
import Derived.Shelf.Strconv.ParseUintEmpty
import Derived.Shelf.Strconv.ParseUint10b64
import Derived.Shelf.Strconv.ParseUint10b32
import Derived.Shelf.Strconv.ParseUint10b16
import Derived.Shelf.Strconv.ParseUint10b8
import Derived.Shelf.Strconv.ParseUint10At
import Derived.Shelf.Strconv.ParseInt10At64
import Derived.Shelf.Strconv.ParseInt10At32
import Derived.Shelf.Strconv.ParseInt10At16
import Derived.Shelf.Strconv.ParseInt10At8
import Derived.Shelf.Strconv.ParseInt10All
import Derived.Shelf.Strconv.ParseIntPublic10
import Derived.Shelf.Strconv.ErrVarParseInt
import Derived.Shelf.Strings.Search1
import Derived.Shelf.Strings.Search2
import Derived.Shelf.Strings.Search3
import Derived.Shelf.Strings.Count
import Derived.Shelf.Strings.Shaped
import Derived.Shelf.GgClosure.StringsIndexFunc
import Derived.Ground.GgwProg
import Derived.Shelf.GgClosure.StringsIndexFuncTop
import Derived.Shelf.GgClosure.StringsRunes
import Derived.Shelf.Strings.Prefix
import Derived.Shelf.Strings.Split
import Derived.Shelf.Strings.Replace
import Derived.Shelf.Strings.SplitShaped
import Derived.Shelf.Unicode.Decode
import Derived.Shelf.Strings.Runes
import Derived.Shelf.Strings.RuneCount
import Derived.Shelf.Strings.AsciiSet
import Derived.Shelf.Strings.Explode
import Derived.Shelf.Unicode.DecodeSlow
import Derived.Shelf.Unicode.DecodeAny
import Derived.Shelf.Unicode.DecodeLast
import Derived.Shelf.Strings.FuncGrows
import Derived.Shelf.Strings.BuilderCap
import Derived.Shelf.Slices.Turned
import Derived.Shelf.Slices.Equal
import Derived.Ground.Names2Prog
import Derived.Shelf.Slices.Clone
import Derived.Ground.SlgmProg
import Derived.Shelf.SortM.Plain
import Derived.Shelf.SortM.SortNone
import Derived.Test.YtainiaighnjpfaaGreatDoorProg
namespace Go.Proofs
open Go.Shelf
def Tryz.lays169_ren:Go.Shelf.Ren:=⟨fun|169=>133|n=>n,fun|70=>187|9=>9|0=>0|72=>190|37=>188|127=>212|3=>3|5=>5|n=>n,fun|n=>n⟩
theorem Tryz.lays169:Go.Proofs.Lays.n169 Tryz.prog Tryz.lays169_ren:={
  mixed:=by kernel_rfl
  f169:=Tryz.func133.trans (congrArg some (by kernel_rfl))
  t0:=Tryz.underlying0
  a0:=Tryz.isAgg0
  z0:=Tryz.sizeOf0
  v0:=Tryz.zeroValue0
  t3:=Tryz.underlying3
  a3:=Tryz.isAgg3
  z3:=Tryz.sizeOf3
  v3:=Tryz.zeroValue3
  t9:=Tryz.underlying9
  a9:=Tryz.isAgg9
  z9:=Tryz.sizeOf9
  v9:=Tryz.zeroValue9
  t37:=Tryz.underlying188
  a37:=Tryz.isAgg188
  z37:=Tryz.sizeOf188
  v37:=Tryz.zeroValue188
  t70:=Tryz.underlying187
  a70:=Tryz.isAgg187
  z70:=Tryz.sizeOf187
  v70:=Tryz.zeroValue187
  t72:=Tryz.underlying190
  a72:=Tryz.isAgg190
  z72:=Tryz.sizeOf190
  v72:=Tryz.zeroValue190
  t127:=Tryz.underlying212
  a127:=Tryz.isAgg212
  z127:=Tryz.sizeOf212
  v127:=Tryz.zeroValue212 }
theorem Tryz.Builder_Extra_169:Builder.Extra Tryz.prog Tryz.lays169_ren:={
  sizeBuilder:=by kernel_rfl
  liesBuilder:=by kernel_rfl
  t5:=Tryz.underlying5
  a5:=Tryz.isAgg5
  z5:=Tryz.sizeOf5
  v5:=Tryz.zeroValue5
  infoByte:=by kernel_rfl
  cellsByte:=by kernel_rfl
  sizeByte:=by kernel_rfl
  neB5:=by decide }
def Tryz.lays160_ren:Go.Shelf.Ren:=⟨fun|160=>80|232=>110|231=>109|227=>111|234=>113|233=>112|236=>115|235=>114|228=>164|271=>166|151=>165|197=>132|120=>204|152=>203|260=>180|137=>120|119=>234|224=>217|225=>216|217=>168|266=>205|n=>n,fun|9=>9|4=>4|3=>3|5=>5|117=>167|116=>166|0=>0|124=>170|21=>21|105=>192|46=>198|119=>244|139=>247|138=>246|n=>n,fun|3=>1|4=>2|n=>n⟩
theorem Tryz.lays160:Go.Proofs.Lays.n160 Tryz.prog Tryz.lays160_ren:={
  mixed:=by kernel_rfl
  f119:=Tryz.func234.trans (congrArg some (by kernel_rfl))
  f120:=Tryz.func204.trans (congrArg some (by kernel_rfl))
  f137:=Tryz.func120.trans (congrArg some (by kernel_rfl))
  f151:=Tryz.func165.trans (congrArg some (by kernel_rfl))
  f152:=Tryz.func203.trans (congrArg some (by kernel_rfl))
  f160:=Tryz.func80.trans (congrArg some (by kernel_rfl))
  f197:=Tryz.func132.trans (congrArg some (by kernel_rfl))
  f217:=Tryz.func168.trans (congrArg some (by kernel_rfl))
  f224:=Tryz.func217.trans (congrArg some (by kernel_rfl))
  f225:=Tryz.func216.trans (congrArg some (by kernel_rfl))
  f227:=Tryz.func111.trans (congrArg some (by kernel_rfl))
  f228:=Tryz.func164.trans (congrArg some (by kernel_rfl))
  f231:=Tryz.func109.trans (congrArg some (by kernel_rfl))
  f232:=Tryz.func110.trans (congrArg some (by kernel_rfl))
  f233:=Tryz.func112.trans (congrArg some (by kernel_rfl))
  f234:=Tryz.func113.trans (congrArg some (by kernel_rfl))
  f235:=Tryz.func114.trans (congrArg some (by kernel_rfl))
  f236:=Tryz.func115.trans (congrArg some (by kernel_rfl))
  f260:=Tryz.func180.trans (congrArg some (by kernel_rfl))
  f266:=Tryz.func205.trans (congrArg some (by kernel_rfl))
  f271:=Tryz.func166.trans (congrArg some (by kernel_rfl))
  t0:=Tryz.underlying0
  a0:=Tryz.isAgg0
  z0:=Tryz.sizeOf0
  v0:=Tryz.zeroValue0
  t3:=Tryz.underlying3
  a3:=Tryz.isAgg3
  z3:=Tryz.sizeOf3
  v3:=Tryz.zeroValue3
  t4:=Tryz.underlying4
  a4:=Tryz.isAgg4
  z4:=Tryz.sizeOf4
  v4:=Tryz.zeroValue4
  t5:=Tryz.underlying5
  a5:=Tryz.isAgg5
  z5:=Tryz.sizeOf5
  v5:=Tryz.zeroValue5
  t9:=Tryz.underlying9
  a9:=Tryz.isAgg9
  z9:=Tryz.sizeOf9
  v9:=Tryz.zeroValue9
  t21:=Tryz.underlying21
  a21:=Tryz.isAgg21
  z21:=Tryz.sizeOf21
  v21:=Tryz.zeroValue21
  t46:=Tryz.underlying198
  a46:=Tryz.isAgg198
  z46:=Tryz.sizeOf198
  v46:=Tryz.zeroValue198
  t105:=Tryz.underlying192
  a105:=Tryz.isAgg192
  z105:=Tryz.sizeOf192
  v105:=Tryz.zeroValue192
  t116:=Tryz.underlying166
  a116:=Tryz.isAgg166
  z116:=Tryz.sizeOf166
  t117:=Tryz.underlying167
  a117:=Tryz.isAgg167
  z117:=Tryz.sizeOf167
  v117:=Tryz.zeroValue167
  t119:=Tryz.underlying244
  a119:=Tryz.isAgg244
  z119:=Tryz.sizeOf244
  t124:=Tryz.underlying170
  a124:=Tryz.isAgg170
  z124:=Tryz.sizeOf170
  v124:=Tryz.zeroValue170
  t138:=Tryz.underlying246
  a138:=Tryz.isAgg246
  z138:=Tryz.sizeOf246
  v138:=Tryz.zeroValue246
  t139:=Tryz.underlying247
  a139:=Tryz.isAgg247
  z139:=Tryz.sizeOf247
  v139:=Tryz.zeroValue247
  g3:=by kernel_rfl
  g4:=by kernel_rfl }
def Tryz.lays137_ren:Go.Shelf.Ren:=⟨fun|137=>120|217=>168|266=>205|n=>n,fun|9=>9|5=>5|3=>3|n=>n,fun|n=>n⟩
theorem Tryz.lays137:Go.Proofs.Lays.n137 Tryz.prog Tryz.lays137_ren:={
  mixed:=by kernel_rfl
  f137:=Tryz.func120.trans (congrArg some (by kernel_rfl))
  f217:=Tryz.func168.trans (congrArg some (by kernel_rfl))
  f266:=Tryz.func205.trans (congrArg some (by kernel_rfl))
  t3:=Tryz.underlying3
  a3:=Tryz.isAgg3
  z3:=Tryz.sizeOf3
  v3:=Tryz.zeroValue3
  t5:=Tryz.underlying5
  a5:=Tryz.isAgg5
  z5:=Tryz.sizeOf5
  v5:=Tryz.zeroValue5
  t9:=Tryz.underlying9
  a9:=Tryz.isAgg9
  z9:=Tryz.sizeOf9
  v9:=Tryz.zeroValue9 }
open Go.RowKit in
theorem Tryz.strings_IndexByte (s:ByteArray) (c:Int) (w:World) :
    Calls Tryz.prog 120 #[.string s,.int .u8 c] w fun e w'=>e=.returned (.int .i64 (Lib.indexByte s.data.toList c.toNat.toUInt8))∧w'=w:=Any.strings_IndexByte Tryz.lays137 s c w
def Tryz.lays103_ren:Go.Shelf.Ren:=⟨fun|103=>202|210=>233|206=>251|n=>n,fun|9=>9|4=>4|24=>175|3=>3|n=>n,fun|n=>n⟩
theorem Tryz.lays103:Go.Proofs.Lays.n103 Tryz.prog Tryz.lays103_ren:={
  mixed:=by kernel_rfl
  f103:=Tryz.func202.trans (congrArg some (by kernel_rfl))
  f206:=Tryz.func251.trans (congrArg some (by kernel_rfl))
  f210:=Tryz.func233.trans (congrArg some (by kernel_rfl))
  t3:=Tryz.underlying3
  a3:=Tryz.isAgg3
  z3:=Tryz.sizeOf3
  v3:=Tryz.zeroValue3
  t4:=Tryz.underlying4
  a4:=Tryz.isAgg4
  z4:=Tryz.sizeOf4
  v4:=Tryz.zeroValue4
  t9:=Tryz.underlying9
  a9:=Tryz.isAgg9
  z9:=Tryz.sizeOf9
  v9:=Tryz.zeroValue9
  t24:=Tryz.underlying175
  a24:=Tryz.isAgg175
  z24:=Tryz.sizeOf175
  v24:=Tryz.zeroValue175 }
open Go.RowKit in
theorem Tryz.strings_CutPrefix (s p:ByteArray) (w:World) :
    Calls Tryz.prog 202 #[.string s,.string p] w fun e w'=>e=.returned (.tuple #[.string ⟨(Lib.trimPrefix s.data.toList p.data.toList).toArray⟩,.bool (Lib.hasPrefix s.data.toList p.data.toList)])∧w'=w:=Any.strings_CutPrefix Tryz.lays103 s p w
def Tryz.lays104_ren:Go.Shelf.Ren:=⟨fun|104=>121|211=>169|207=>206|n=>n,fun|9=>9|4=>4|24=>175|3=>3|n=>n,fun|n=>n⟩
theorem Tryz.lays104:Go.Proofs.Lays.n104 Tryz.prog Tryz.lays104_ren:={
  mixed:=by kernel_rfl
  f104:=Tryz.func121.trans (congrArg some (by kernel_rfl))
  f207:=Tryz.func206.trans (congrArg some (by kernel_rfl))
  f211:=Tryz.func169.trans (congrArg some (by kernel_rfl))
  t3:=Tryz.underlying3
  a3:=Tryz.isAgg3
  z3:=Tryz.sizeOf3
  v3:=Tryz.zeroValue3
  t4:=Tryz.underlying4
  a4:=Tryz.isAgg4
  z4:=Tryz.sizeOf4
  v4:=Tryz.zeroValue4
  t9:=Tryz.underlying9
  a9:=Tryz.isAgg9
  z9:=Tryz.sizeOf9
  v9:=Tryz.zeroValue9
  t24:=Tryz.underlying175
  a24:=Tryz.isAgg175
  z24:=Tryz.sizeOf175
  v24:=Tryz.zeroValue175 }
open Go.RowKit in
theorem Tryz.strings_CutSuffix (s p:ByteArray) (w:World) (hs:s.size≤9223372036854775807) :
    Calls Tryz.prog 121 #[.string s,.string p] w fun e w'=>e=.returned (.tuple #[.string ⟨(Lib.trimSuffix s.data.toList p.data.toList).toArray⟩,.bool (Lib.hasSuffix s.data.toList p.data.toList)])∧w'=w:=Any.strings_CutSuffix Tryz.lays104 s p w hs
def Tryz.lays121_ren:Go.Shelf.Ren:=⟨fun|121=>148|214=>194|n=>n,fun|4=>4|9=>9|n=>n,fun|n=>n⟩
theorem Tryz.lays121:Go.Proofs.Lays.n121 Tryz.prog Tryz.lays121_ren:={
  mixed:=by kernel_rfl
  f121:=Tryz.func148.trans (congrArg some (by kernel_rfl))
  f214:=Tryz.func194.trans (congrArg some (by kernel_rfl))
  t4:=Tryz.underlying4
  a4:=Tryz.isAgg4
  z4:=Tryz.sizeOf4
  v4:=Tryz.zeroValue4
  t9:=Tryz.underlying9
  a9:=Tryz.isAgg9
  z9:=Tryz.sizeOf9
  v9:=Tryz.zeroValue9 }
open Go.RowKit in
theorem Tryz.strconv_FormatBool (b:Bool) (w:World) :
    Calls Tryz.prog 148 #[.bool b] w fun e w'=>e=.returned (.string ⟨(Lib.formatBool b).toArray⟩)∧w'=w:=Any.strconv_FormatBool Tryz.lays121 b w
open Go.RowKit in
theorem Tryz.Builder_String_any_k (B b:Nat) (l:List UInt8) (w:World) (h:Lib.IsBuilderF 190 5 B b (Lib.byteCells l) w) (hBw:B≤w.heap.size) :
    Calls Tryz.prog 133 #[.pointer (some ⟨b,0,none⟩)] w fun e w'=>e=.returned (.string ⟨l.toArray⟩)∧(Lib.IsBuilderF 190 5 B b (Lib.byteCells l) w'∧Below B w w'∧Lib.OthersKept 5 (some b) w w'):=Any.Builder_String_any_k Tryz.lays169 Tryz.Builder_Extra_169 B b l w h hBw
def Tryz.lays242_ren:Go.Shelf.Ren:=⟨fun|242=>246|278=>258|n=>n,fun|37=>188|21=>21|51=>222|4=>4|5=>5|46=>198|n=>n,fun|n=>n⟩
theorem Tryz.lays242:Go.Proofs.Lays.n242 Tryz.prog Tryz.lays242_ren:={
  mixed:=by kernel_rfl
  f242:=Tryz.func246.trans (congrArg some (by kernel_rfl))
  f278:=Tryz.func258.trans (congrArg some (by kernel_rfl))
  t4:=Tryz.underlying4
  a4:=Tryz.isAgg4
  z4:=Tryz.sizeOf4
  v4:=Tryz.zeroValue4
  t5:=Tryz.underlying5
  a5:=Tryz.isAgg5
  z5:=Tryz.sizeOf5
  v5:=Tryz.zeroValue5
  t21:=Tryz.underlying21
  a21:=Tryz.isAgg21
  z21:=Tryz.sizeOf21
  v21:=Tryz.zeroValue21
  t37:=Tryz.underlying188
  a37:=Tryz.isAgg188
  z37:=Tryz.sizeOf188
  v37:=Tryz.zeroValue188
  t46:=Tryz.underlying198
  a46:=Tryz.isAgg198
  z46:=Tryz.sizeOf198
  v46:=Tryz.zeroValue198
  t51:=Tryz.underlying222
  a51:=Tryz.isAgg222
  z51:=Tryz.sizeOf222
  v51:=Tryz.zeroValue222 }
open Go.RowKit in
theorem Tryz.utf8_AppendRune_row (B:Nat) (v:Value) (n:Nat) (xs:List Value) (r:Int) (hr0: -2147483648≤r) (hr1:r≤2147483647) (w:World) (hown:w.ownsRowF B 5 1 v n xs) (hlen:n+4≤140737488355328) (hBw:B≤w.heap.size) :
    Calls Tryz.prog 246 #[v,.int .i32 r] w fun e w'=> ∃v',e=.returned v'∧w'.ownsRowF B 5 1 v' (n+(Lib.runeCells r).length) (xs++Lib.runeCells r)∧∃o,(w.alloc o).grownBy w' v.ownBlock:=Any.utf8_AppendRune_row Tryz.lays242 (by kernel_rfl) B v n xs r hr0 hr1 w hown hlen hBw
def Tryz.laysM171_ren:Go.Shelf.Ren:=⟨fun|171=>124|243=>173|246=>213|283=>238|284=>239|285=>240|286=>241|129=>191|317=>254|318=>255|319=>256|320=>257|337=>260|338=>261|n=>n,fun|3=>3|9=>9|2=>2|4=>4|171=>272|0=>0|53=>224|37=>188|5=>5|173=>274|212=>291|51=>222|20=>20|213=>292|46=>198|232=>293|233=>294|n=>n,fun|17=>5|18=>6|19=>7|n=>n⟩
theorem Tryz.laysM171:Go.Proofs.LaysM.n171 Tryz.prog Tryz.laysM171_ren:={
  mixed:=by kernel_rfl
  f129:=Tryz.func191.trans (congrArg some (by kernel_rfl))
  f171:=Tryz.func124.trans (congrArg some (by kernel_rfl))
  f243:=Tryz.func173.trans (congrArg some (by kernel_rfl))
  f246:=Tryz.func213.trans (congrArg some (by kernel_rfl))
  f283:=Tryz.func238.trans (congrArg some (by kernel_rfl))
  f284:=Tryz.func239.trans (congrArg some (by kernel_rfl))
  f285:=Tryz.func240.trans (congrArg some (by kernel_rfl))
  f286:=Tryz.func241.trans (congrArg some (by kernel_rfl))
  f317:=Tryz.func254.trans (congrArg some (by kernel_rfl))
  f318:=Tryz.func255.trans (congrArg some (by kernel_rfl))
  f319:=Tryz.func256.trans (congrArg some (by kernel_rfl))
  f320:=Tryz.func257.trans (congrArg some (by kernel_rfl))
  f337:=Tryz.func260.trans (congrArg some (by kernel_rfl))
  f338:=Tryz.func261.trans (congrArg some (by kernel_rfl))
  t0:=Tryz.underlying0
  a0:=Tryz.isAgg0
  z0:=Tryz.sizeOf0
  v0:=Tryz.zeroValue0
  t2:=Tryz.underlying2
  a2:=Tryz.isAgg2
  z2:=Tryz.sizeOf2
  v2:=Tryz.zeroValue2
  t3:=Tryz.underlying3
  a3:=Tryz.isAgg3
  z3:=Tryz.sizeOf3
  v3:=Tryz.zeroValue3
  t4:=Tryz.underlying4
  a4:=Tryz.isAgg4
  z4:=Tryz.sizeOf4
  v4:=Tryz.zeroValue4
  t5:=Tryz.underlying5
  a5:=Tryz.isAgg5
  z5:=Tryz.sizeOf5
  v5:=Tryz.zeroValue5
  t9:=Tryz.underlying9
  a9:=Tryz.isAgg9
  z9:=Tryz.sizeOf9
  v9:=Tryz.zeroValue9
  t20:=Tryz.underlying20
  a20:=Tryz.isAgg20
  z20:=Tryz.sizeOf20
  v20:=Tryz.zeroValue20
  t37:=Tryz.underlying188
  a37:=Tryz.isAgg188
  z37:=Tryz.sizeOf188
  v37:=Tryz.zeroValue188
  t46:=Tryz.underlying198
  a46:=Tryz.isAgg198
  z46:=Tryz.sizeOf198
  v46:=Tryz.zeroValue198
  t51:=Tryz.underlying222
  a51:=Tryz.isAgg222
  z51:=Tryz.sizeOf222
  v51:=Tryz.zeroValue222
  t53:=Tryz.underlying224
  a53:=Tryz.isAgg224
  z53:=Tryz.sizeOf224
  v53:=Tryz.zeroValue224
  t171:=Tryz.underlying272
  a171:=Tryz.isAgg272
  z171:=Tryz.sizeOf272
  v171:=Tryz.zeroValue272
  t173:=Tryz.underlying274
  a173:=Tryz.isAgg274
  z173:=Tryz.sizeOf274
  v173:=Tryz.zeroValue274
  t212:=Tryz.underlying291
  a212:=Tryz.isAgg291
  z212:=Tryz.sizeOf291
  v212:=Tryz.zeroValue291
  t213:=Tryz.underlying292
  a213:=Tryz.isAgg292
  z213:=Tryz.sizeOf292
  t232:=Tryz.underlying293
  a232:=Tryz.isAgg293
  z232:=Tryz.sizeOf293
  v232:=Tryz.zeroValue293
  t233:=Tryz.underlying294
  a233:=Tryz.isAgg294
  z233:=Tryz.sizeOf294
  v233:=Tryz.zeroValue294
  g17:=by kernel_rfl
  g18:=by kernel_rfl
  g19:=by kernel_rfl
  i0:=by kernel_rfl
  i2:=by kernel_rfl
  i3:=by kernel_rfl
  i4:=by kernel_rfl
  i5:=by kernel_rfl
  i9:=by kernel_rfl
  i20:=by kernel_rfl
  i37:=by kernel_rfl
  i46:=by kernel_rfl
  i51:=by kernel_rfl
  i53:=by kernel_rfl
  i171:=by kernel_rfl
  i173:=by kernel_rfl
  i212:=by kernel_rfl
  i232:=by kernel_rfl
  i233:=by kernel_rfl
  m17:=by kernel_rfl
  m18:=by kernel_rfl
  m19:=by kernel_rfl }
open Go.RowKit Go.Sort Go.Lib in
theorem Tryz.strconv_Itoa (n:Int) (h0: -9223372036854775808≤n) (h1:n≤9223372036854775807) (w:World) (htab:Lib.TabIs Tryz.prog w "internal/strconv.uint64pow10" .u64 Lib.pow10Tab) :
    Calls Tryz.prog 124 #[.int .i64 n] w fun e w'=>e=.returned (.string ⟨(Lib.itoa n).toArray⟩)∧∃k os,w'=grow (w.drewN k) os:=Any.strconv_Itoa Tryz.laysM171 n h0 h1 w htab
def Tryz.laysM173_ren:Go.Shelf.Ren:=⟨fun|173=>195|246=>213|283=>238|284=>239|285=>240|286=>241|129=>191|317=>254|318=>255|319=>256|320=>257|337=>260|338=>261|n=>n,fun|2=>2|3=>3|9=>9|4=>4|171=>272|0=>0|53=>224|37=>188|5=>5|173=>274|212=>291|51=>222|20=>20|213=>292|46=>198|232=>293|233=>294|n=>n,fun|17=>5|18=>6|19=>7|n=>n⟩
theorem Tryz.laysM173:Go.Proofs.LaysM.n173 Tryz.prog Tryz.laysM173_ren:={
  mixed:=by kernel_rfl
  f129:=Tryz.func191.trans (congrArg some (by kernel_rfl))
  f173:=Tryz.func195.trans (congrArg some (by kernel_rfl))
  f246:=Tryz.func213.trans (congrArg some (by kernel_rfl))
  f283:=Tryz.func238.trans (congrArg some (by kernel_rfl))
  f284:=Tryz.func239.trans (congrArg some (by kernel_rfl))
  f285:=Tryz.func240.trans (congrArg some (by kernel_rfl))
  f286:=Tryz.func241.trans (congrArg some (by kernel_rfl))
  f317:=Tryz.func254.trans (congrArg some (by kernel_rfl))
  f318:=Tryz.func255.trans (congrArg some (by kernel_rfl))
  f319:=Tryz.func256.trans (congrArg some (by kernel_rfl))
  f320:=Tryz.func257.trans (congrArg some (by kernel_rfl))
  f337:=Tryz.func260.trans (congrArg some (by kernel_rfl))
  f338:=Tryz.func261.trans (congrArg some (by kernel_rfl))
  t0:=Tryz.underlying0
  a0:=Tryz.isAgg0
  z0:=Tryz.sizeOf0
  v0:=Tryz.zeroValue0
  t2:=Tryz.underlying2
  a2:=Tryz.isAgg2
  z2:=Tryz.sizeOf2
  v2:=Tryz.zeroValue2
  t3:=Tryz.underlying3
  a3:=Tryz.isAgg3
  z3:=Tryz.sizeOf3
  v3:=Tryz.zeroValue3
  t4:=Tryz.underlying4
  a4:=Tryz.isAgg4
  z4:=Tryz.sizeOf4
  v4:=Tryz.zeroValue4
  t5:=Tryz.underlying5
  a5:=Tryz.isAgg5
  z5:=Tryz.sizeOf5
  v5:=Tryz.zeroValue5
  t9:=Tryz.underlying9
  a9:=Tryz.isAgg9
  z9:=Tryz.sizeOf9
  v9:=Tryz.zeroValue9
  t20:=Tryz.underlying20
  a20:=Tryz.isAgg20
  z20:=Tryz.sizeOf20
  v20:=Tryz.zeroValue20
  t37:=Tryz.underlying188
  a37:=Tryz.isAgg188
  z37:=Tryz.sizeOf188
  v37:=Tryz.zeroValue188
  t46:=Tryz.underlying198
  a46:=Tryz.isAgg198
  z46:=Tryz.sizeOf198
  v46:=Tryz.zeroValue198
  t51:=Tryz.underlying222
  a51:=Tryz.isAgg222
  z51:=Tryz.sizeOf222
  v51:=Tryz.zeroValue222
  t53:=Tryz.underlying224
  a53:=Tryz.isAgg224
  z53:=Tryz.sizeOf224
  v53:=Tryz.zeroValue224
  t171:=Tryz.underlying272
  a171:=Tryz.isAgg272
  z171:=Tryz.sizeOf272
  v171:=Tryz.zeroValue272
  t173:=Tryz.underlying274
  a173:=Tryz.isAgg274
  z173:=Tryz.sizeOf274
  v173:=Tryz.zeroValue274
  t212:=Tryz.underlying291
  a212:=Tryz.isAgg291
  z212:=Tryz.sizeOf291
  v212:=Tryz.zeroValue291
  t213:=Tryz.underlying292
  a213:=Tryz.isAgg292
  z213:=Tryz.sizeOf292
  t232:=Tryz.underlying293
  a232:=Tryz.isAgg293
  z232:=Tryz.sizeOf293
  v232:=Tryz.zeroValue293
  t233:=Tryz.underlying294
  a233:=Tryz.isAgg294
  z233:=Tryz.sizeOf294
  v233:=Tryz.zeroValue294
  g17:=by kernel_rfl
  g18:=by kernel_rfl
  g19:=by kernel_rfl
  i0:=by kernel_rfl
  i2:=by kernel_rfl
  i3:=by kernel_rfl
  i4:=by kernel_rfl
  i5:=by kernel_rfl
  i9:=by kernel_rfl
  i20:=by kernel_rfl
  i37:=by kernel_rfl
  i46:=by kernel_rfl
  i51:=by kernel_rfl
  i53:=by kernel_rfl
  i171:=by kernel_rfl
  i173:=by kernel_rfl
  i212:=by kernel_rfl
  i232:=by kernel_rfl
  i233:=by kernel_rfl
  m17:=by kernel_rfl
  m18:=by kernel_rfl
  m19:=by kernel_rfl }
open Go.RowKit Go.Sort Go.Lib in
theorem Tryz.strconv_FormatInt_10 (n:Int) (h0: -9223372036854775808≤n) (h1:n≤9223372036854775807) (w:World) (htab:Lib.TabIs Tryz.prog w "internal/strconv.uint64pow10" .u64 Lib.pow10Tab) :
    Calls Tryz.prog 195 #[.int .i64 n,.int .i64 10] w fun e w'=>e=.returned (.string ⟨(Lib.itoa n).toArray⟩)∧∃k os,w'=grow (w.drewN k) os:=Any.strconv_FormatInt_10 Tryz.laysM173 n h0 h1 w htab
def Tryz.laysC172_ren:Go.Shelf.Ren:=⟨fun|172=>123|244=>171|245=>172|247=>208|279=>209|280=>210|281=>211|282=>212|287=>235|316=>236|171=>124|205=>237|321=>252|322=>253|243=>173|246=>213|283=>238|284=>239|285=>240|286=>241|129=>191|317=>254|318=>255|319=>256|320=>257|337=>260|338=>261|n=>n,fun|9=>9|3=>3|75=>179|76=>180|4=>4|5=>5|167=>237|37=>188|0=>0|85=>227|2=>2|168=>238|53=>224|175=>266|46=>198|210=>270|127=>212|145=>289|143=>287|21=>21|171=>272|173=>274|212=>291|51=>222|20=>20|213=>292|232=>293|233=>294|80=>194|n=>n,fun|15=>3|16=>4|17=>5|18=>6|19=>7|n=>n⟩
theorem Tryz.laysC172:Go.Proofs.LaysC.n172 Tryz.prog Tryz.laysC172_ren:={
  mixed:=by kernel_rfl
  f129:=Tryz.func191.trans (congrArg some (by kernel_rfl))
  f171:=Tryz.func124.trans (congrArg some (by kernel_rfl))
  f172:=Tryz.func123.trans (congrArg some (by kernel_rfl))
  f205:=Tryz.func237.trans (congrArg some (by kernel_rfl))
  f243:=Tryz.func173.trans (congrArg some (by kernel_rfl))
  f244:=Tryz.func171.trans (congrArg some (by kernel_rfl))
  f245:=Tryz.func172.trans (congrArg some (by kernel_rfl))
  f246:=Tryz.func213.trans (congrArg some (by kernel_rfl))
  f247:=Tryz.func208.trans (congrArg some (by kernel_rfl))
  f279:=Tryz.func209.trans (congrArg some (by kernel_rfl))
  f280:=Tryz.func210.trans (congrArg some (by kernel_rfl))
  f281:=Tryz.func211.trans (congrArg some (by kernel_rfl))
  f282:=Tryz.func212.trans (congrArg some (by kernel_rfl))
  f283:=Tryz.func238.trans (congrArg some (by kernel_rfl))
  f284:=Tryz.func239.trans (congrArg some (by kernel_rfl))
  f285:=Tryz.func240.trans (congrArg some (by kernel_rfl))
  f286:=Tryz.func241.trans (congrArg some (by kernel_rfl))
  f287:=Tryz.func235.trans (congrArg some (by kernel_rfl))
  f316:=Tryz.func236.trans (congrArg some (by kernel_rfl))
  f317:=Tryz.func254.trans (congrArg some (by kernel_rfl))
  f318:=Tryz.func255.trans (congrArg some (by kernel_rfl))
  f319:=Tryz.func256.trans (congrArg some (by kernel_rfl))
  f320:=Tryz.func257.trans (congrArg some (by kernel_rfl))
  f321:=Tryz.func252.trans (congrArg some (by kernel_rfl))
  f322:=Tryz.func253.trans (congrArg some (by kernel_rfl))
  f337:=Tryz.func260.trans (congrArg some (by kernel_rfl))
  f338:=Tryz.func261.trans (congrArg some (by kernel_rfl))
  t0:=Tryz.underlying0
  a0:=Tryz.isAgg0
  z0:=Tryz.sizeOf0
  v0:=Tryz.zeroValue0
  t2:=Tryz.underlying2
  a2:=Tryz.isAgg2
  z2:=Tryz.sizeOf2
  v2:=Tryz.zeroValue2
  t3:=Tryz.underlying3
  a3:=Tryz.isAgg3
  z3:=Tryz.sizeOf3
  v3:=Tryz.zeroValue3
  t4:=Tryz.underlying4
  a4:=Tryz.isAgg4
  z4:=Tryz.sizeOf4
  v4:=Tryz.zeroValue4
  t5:=Tryz.underlying5
  a5:=Tryz.isAgg5
  z5:=Tryz.sizeOf5
  v5:=Tryz.zeroValue5
  t9:=Tryz.underlying9
  a9:=Tryz.isAgg9
  z9:=Tryz.sizeOf9
  v9:=Tryz.zeroValue9
  t20:=Tryz.underlying20
  a20:=Tryz.isAgg20
  z20:=Tryz.sizeOf20
  v20:=Tryz.zeroValue20
  t21:=Tryz.underlying21
  a21:=Tryz.isAgg21
  z21:=Tryz.sizeOf21
  v21:=Tryz.zeroValue21
  t37:=Tryz.underlying188
  a37:=Tryz.isAgg188
  z37:=Tryz.sizeOf188
  v37:=Tryz.zeroValue188
  t46:=Tryz.underlying198
  a46:=Tryz.isAgg198
  z46:=Tryz.sizeOf198
  v46:=Tryz.zeroValue198
  t51:=Tryz.underlying222
  a51:=Tryz.isAgg222
  z51:=Tryz.sizeOf222
  v51:=Tryz.zeroValue222
  t53:=Tryz.underlying224
  a53:=Tryz.isAgg224
  z53:=Tryz.sizeOf224
  v53:=Tryz.zeroValue224
  t75:=Tryz.underlying179
  a75:=Tryz.isAgg179
  z75:=Tryz.sizeOf179
  v75:=Tryz.zeroValue179
  t76:=Tryz.underlying180
  a76:=Tryz.isAgg180
  z76:=Tryz.sizeOf180
  v76:=Tryz.zeroValue180
  t85:=Tryz.underlying227
  a85:=Tryz.isAgg227
  z85:=Tryz.sizeOf227
  v85:=Tryz.zeroValue227
  t127:=Tryz.underlying212
  a127:=Tryz.isAgg212
  z127:=Tryz.sizeOf212
  v127:=Tryz.zeroValue212
  t143:=Tryz.underlying287
  a143:=Tryz.isAgg287
  z143:=Tryz.sizeOf287
  v143:=Tryz.zeroValue287
  t145:=Tryz.underlying289
  a145:=Tryz.isAgg289
  z145:=Tryz.sizeOf289
  v145:=Tryz.zeroValue289
  t167:=Tryz.underlying237
  a167:=Tryz.isAgg237
  z167:=Tryz.sizeOf237
  v167:=Tryz.zeroValue237
  t168:=Tryz.underlying238
  a168:=Tryz.isAgg238
  z168:=Tryz.sizeOf238
  v168:=Tryz.zeroValue238
  t171:=Tryz.underlying272
  a171:=Tryz.isAgg272
  z171:=Tryz.sizeOf272
  v171:=Tryz.zeroValue272
  t173:=Tryz.underlying274
  a173:=Tryz.isAgg274
  z173:=Tryz.sizeOf274
  v173:=Tryz.zeroValue274
  t175:=Tryz.underlying266
  a175:=Tryz.isAgg266
  z175:=Tryz.sizeOf266
  v175:=Tryz.zeroValue266
  t210:=Tryz.underlying270
  a210:=Tryz.isAgg270
  z210:=Tryz.sizeOf270
  v210:=Tryz.zeroValue270
  t212:=Tryz.underlying291
  a212:=Tryz.isAgg291
  z212:=Tryz.sizeOf291
  v212:=Tryz.zeroValue291
  t213:=Tryz.underlying292
  a213:=Tryz.isAgg292
  z213:=Tryz.sizeOf292
  t232:=Tryz.underlying293
  a232:=Tryz.isAgg293
  z232:=Tryz.sizeOf293
  v232:=Tryz.zeroValue293
  t233:=Tryz.underlying294
  a233:=Tryz.isAgg294
  z233:=Tryz.sizeOf294
  v233:=Tryz.zeroValue294
  g15:=by kernel_rfl
  g16:=by kernel_rfl
  g17:=by kernel_rfl
  g18:=by kernel_rfl
  g19:=by kernel_rfl
  t80:=Tryz.underlying194
  a80:=Tryz.isAgg194
  z80:=Tryz.sizeOf194
  v80:=Tryz.zeroValue194
  i0:=by kernel_rfl
  i2:=by kernel_rfl
  i3:=by kernel_rfl
  i4:=by kernel_rfl
  i5:=by kernel_rfl
  i9:=by kernel_rfl
  i20:=by kernel_rfl
  i21:=by kernel_rfl
  i37:=by kernel_rfl
  i46:=by kernel_rfl
  i51:=by kernel_rfl
  i53:=by kernel_rfl
  i75:=by kernel_rfl
  i76:=by kernel_rfl
  i80:=by kernel_rfl
  i85:=by kernel_rfl
  i127:=by kernel_rfl
  i143:=by kernel_rfl
  i145:=by kernel_rfl
  i167:=by kernel_rfl
  i168:=by kernel_rfl
  i171:=by kernel_rfl
  i173:=by kernel_rfl
  i175:=by kernel_rfl
  i210:=by kernel_rfl
  i212:=by kernel_rfl
  i232:=by kernel_rfl
  i233:=by kernel_rfl
  m15:=by kernel_rfl
  m16:=by kernel_rfl
  m17:=by kernel_rfl
  m18:=by kernel_rfl
  m19:=by kernel_rfl
  c0:=by kernel_rfl
  c2:=by kernel_rfl
  c3:=by kernel_rfl
  c4:=by kernel_rfl
  c5:=by kernel_rfl
  c9:=by kernel_rfl
  c20:=by kernel_rfl
  c21:=by kernel_rfl
  c37:=by kernel_rfl
  c46:=by kernel_rfl
  c51:=by kernel_rfl
  c53:=by kernel_rfl
  c75:=by kernel_rfl
  c76:=by kernel_rfl
  c80:=by kernel_rfl
  c85:=by kernel_rfl
  c127:=by kernel_rfl
  c143:=by kernel_rfl
  c145:=by kernel_rfl
  c167:=by kernel_rfl
  c168:=by kernel_rfl
  c171:=by kernel_rfl
  c173:=by kernel_rfl
  c175:=by kernel_rfl
  c210:=by kernel_rfl
  c212:=by kernel_rfl
  c213:=by kernel_rfl
  c232:=by kernel_rfl
  c233:=by kernel_rfl }
open Go.RowKit in
theorem Tryz.strconv_Atoi_ok (s:ByteArray) (hmax:s.size≤9223372036854775806) (v:Int) (h:Lib.atoiAll s.data.toList=.ok v) (w:World) :
    Calls Tryz.prog 123 #[.string s] w fun e w'=>e=.returned (.tuple #[.int .i64 v,.nilIface])∧(w'=w∨∃t,w'=Lib.bytesWorld w 5 t):=Any.strconv_Atoi_ok Tryz.laysC172 s hmax v h w
open Go.RowKit in
theorem Tryz.strconv_Atoi_range_var (s:ByteArray) (hlim:s.size≤281474976710656) (h:Lib.atoiAll s.data.toList=.range) (tp:TypeId) (p:Value) (w:World) (hvar:w.var? Tryz.prog "strconv.ErrRange"=some #[.iface tp p]) :
    Calls Tryz.prog 123 #[.string s] w fun e w'=> ∃N,e=.returned (.tuple #[.int .i64 (Lib.atoiSat s.data.toList),.iface 238 (.pointer (some ⟨N,0,none⟩))])∧w.heap.size≤N∧w'.heap[N]?=some (.cells #[.string ⟨#[65,116,111,105]⟩,.string s,.iface tp p] 270 (0,0))∧Below w.heap.size w w':=Any.strconv_Atoi_range_var Tryz.laysC172 s hlim h tp p w hvar
def Tryz.laysC174_ren:Go.Shelf.Ren:=⟨fun|174=>196|247=>208|245=>172|287=>235|279=>209|280=>210|281=>211|282=>212|321=>252|322=>253|316=>236|171=>124|205=>237|243=>173|246=>213|283=>238|284=>239|285=>240|286=>241|129=>191|317=>254|318=>255|319=>256|320=>257|337=>260|338=>261|n=>n,fun|9=>9|3=>3|2=>2|75=>179|85=>227|4=>4|167=>237|5=>5|53=>224|175=>266|46=>198|168=>238|37=>188|0=>0|210=>270|21=>21|127=>212|145=>289|143=>287|171=>272|173=>274|212=>291|51=>222|20=>20|213=>292|232=>293|233=>294|80=>194|n=>n,fun|15=>3|16=>4|17=>5|18=>6|19=>7|n=>n⟩
theorem Tryz.laysC174:Go.Proofs.LaysC.n174 Tryz.prog Tryz.laysC174_ren:={
  mixed:=by kernel_rfl
  f129:=Tryz.func191.trans (congrArg some (by kernel_rfl))
  f171:=Tryz.func124.trans (congrArg some (by kernel_rfl))
  f174:=Tryz.func196.trans (congrArg some (by kernel_rfl))
  f205:=Tryz.func237.trans (congrArg some (by kernel_rfl))
  f243:=Tryz.func173.trans (congrArg some (by kernel_rfl))
  f245:=Tryz.func172.trans (congrArg some (by kernel_rfl))
  f246:=Tryz.func213.trans (congrArg some (by kernel_rfl))
  f247:=Tryz.func208.trans (congrArg some (by kernel_rfl))
  f279:=Tryz.func209.trans (congrArg some (by kernel_rfl))
  f280:=Tryz.func210.trans (congrArg some (by kernel_rfl))
  f281:=Tryz.func211.trans (congrArg some (by kernel_rfl))
  f282:=Tryz.func212.trans (congrArg some (by kernel_rfl))
  f283:=Tryz.func238.trans (congrArg some (by kernel_rfl))
  f284:=Tryz.func239.trans (congrArg some (by kernel_rfl))
  f285:=Tryz.func240.trans (congrArg some (by kernel_rfl))
  f286:=Tryz.func241.trans (congrArg some (by kernel_rfl))
  f287:=Tryz.func235.trans (congrArg some (by kernel_rfl))
  f316:=Tryz.func236.trans (congrArg some (by kernel_rfl))
  f317:=Tryz.func254.trans (congrArg some (by kernel_rfl))
  f318:=Tryz.func255.trans (congrArg some (by kernel_rfl))
  f319:=Tryz.func256.trans (congrArg some (by kernel_rfl))
  f320:=Tryz.func257.trans (congrArg some (by kernel_rfl))
  f321:=Tryz.func252.trans (congrArg some (by kernel_rfl))
  f322:=Tryz.func253.trans (congrArg some (by kernel_rfl))
  f337:=Tryz.func260.trans (congrArg some (by kernel_rfl))
  f338:=Tryz.func261.trans (congrArg some (by kernel_rfl))
  t0:=Tryz.underlying0
  a0:=Tryz.isAgg0
  z0:=Tryz.sizeOf0
  v0:=Tryz.zeroValue0
  t2:=Tryz.underlying2
  a2:=Tryz.isAgg2
  z2:=Tryz.sizeOf2
  v2:=Tryz.zeroValue2
  t3:=Tryz.underlying3
  a3:=Tryz.isAgg3
  z3:=Tryz.sizeOf3
  v3:=Tryz.zeroValue3
  t4:=Tryz.underlying4
  a4:=Tryz.isAgg4
  z4:=Tryz.sizeOf4
  v4:=Tryz.zeroValue4
  t5:=Tryz.underlying5
  a5:=Tryz.isAgg5
  z5:=Tryz.sizeOf5
  v5:=Tryz.zeroValue5
  t9:=Tryz.underlying9
  a9:=Tryz.isAgg9
  z9:=Tryz.sizeOf9
  v9:=Tryz.zeroValue9
  t20:=Tryz.underlying20
  a20:=Tryz.isAgg20
  z20:=Tryz.sizeOf20
  v20:=Tryz.zeroValue20
  t21:=Tryz.underlying21
  a21:=Tryz.isAgg21
  z21:=Tryz.sizeOf21
  v21:=Tryz.zeroValue21
  t37:=Tryz.underlying188
  a37:=Tryz.isAgg188
  z37:=Tryz.sizeOf188
  v37:=Tryz.zeroValue188
  t46:=Tryz.underlying198
  a46:=Tryz.isAgg198
  z46:=Tryz.sizeOf198
  v46:=Tryz.zeroValue198
  t51:=Tryz.underlying222
  a51:=Tryz.isAgg222
  z51:=Tryz.sizeOf222
  v51:=Tryz.zeroValue222
  t53:=Tryz.underlying224
  a53:=Tryz.isAgg224
  z53:=Tryz.sizeOf224
  v53:=Tryz.zeroValue224
  t75:=Tryz.underlying179
  a75:=Tryz.isAgg179
  z75:=Tryz.sizeOf179
  v75:=Tryz.zeroValue179
  t85:=Tryz.underlying227
  a85:=Tryz.isAgg227
  z85:=Tryz.sizeOf227
  v85:=Tryz.zeroValue227
  t127:=Tryz.underlying212
  a127:=Tryz.isAgg212
  z127:=Tryz.sizeOf212
  v127:=Tryz.zeroValue212
  t143:=Tryz.underlying287
  a143:=Tryz.isAgg287
  z143:=Tryz.sizeOf287
  v143:=Tryz.zeroValue287
  t145:=Tryz.underlying289
  a145:=Tryz.isAgg289
  z145:=Tryz.sizeOf289
  v145:=Tryz.zeroValue289
  t167:=Tryz.underlying237
  a167:=Tryz.isAgg237
  z167:=Tryz.sizeOf237
  v167:=Tryz.zeroValue237
  t168:=Tryz.underlying238
  a168:=Tryz.isAgg238
  z168:=Tryz.sizeOf238
  v168:=Tryz.zeroValue238
  t171:=Tryz.underlying272
  a171:=Tryz.isAgg272
  z171:=Tryz.sizeOf272
  v171:=Tryz.zeroValue272
  t173:=Tryz.underlying274
  a173:=Tryz.isAgg274
  z173:=Tryz.sizeOf274
  v173:=Tryz.zeroValue274
  t175:=Tryz.underlying266
  a175:=Tryz.isAgg266
  z175:=Tryz.sizeOf266
  v175:=Tryz.zeroValue266
  t210:=Tryz.underlying270
  a210:=Tryz.isAgg270
  z210:=Tryz.sizeOf270
  v210:=Tryz.zeroValue270
  t212:=Tryz.underlying291
  a212:=Tryz.isAgg291
  z212:=Tryz.sizeOf291
  v212:=Tryz.zeroValue291
  t213:=Tryz.underlying292
  a213:=Tryz.isAgg292
  z213:=Tryz.sizeOf292
  t232:=Tryz.underlying293
  a232:=Tryz.isAgg293
  z232:=Tryz.sizeOf293
  v232:=Tryz.zeroValue293
  t233:=Tryz.underlying294
  a233:=Tryz.isAgg294
  z233:=Tryz.sizeOf294
  v233:=Tryz.zeroValue294
  g15:=by kernel_rfl
  g16:=by kernel_rfl
  g17:=by kernel_rfl
  g18:=by kernel_rfl
  g19:=by kernel_rfl
  t80:=Tryz.underlying194
  a80:=Tryz.isAgg194
  z80:=Tryz.sizeOf194
  v80:=Tryz.zeroValue194
  i0:=by kernel_rfl
  i2:=by kernel_rfl
  i3:=by kernel_rfl
  i4:=by kernel_rfl
  i5:=by kernel_rfl
  i9:=by kernel_rfl
  i20:=by kernel_rfl
  i21:=by kernel_rfl
  i37:=by kernel_rfl
  i46:=by kernel_rfl
  i51:=by kernel_rfl
  i53:=by kernel_rfl
  i75:=by kernel_rfl
  i80:=by kernel_rfl
  i85:=by kernel_rfl
  i127:=by kernel_rfl
  i143:=by kernel_rfl
  i145:=by kernel_rfl
  i167:=by kernel_rfl
  i168:=by kernel_rfl
  i171:=by kernel_rfl
  i173:=by kernel_rfl
  i175:=by kernel_rfl
  i210:=by kernel_rfl
  i212:=by kernel_rfl
  i232:=by kernel_rfl
  i233:=by kernel_rfl
  m15:=by kernel_rfl
  m16:=by kernel_rfl
  m17:=by kernel_rfl
  m18:=by kernel_rfl
  m19:=by kernel_rfl
  c0:=by kernel_rfl
  c2:=by kernel_rfl
  c3:=by kernel_rfl
  c4:=by kernel_rfl
  c5:=by kernel_rfl
  c9:=by kernel_rfl
  c20:=by kernel_rfl
  c21:=by kernel_rfl
  c37:=by kernel_rfl
  c46:=by kernel_rfl
  c51:=by kernel_rfl
  c53:=by kernel_rfl
  c75:=by kernel_rfl
  c80:=by kernel_rfl
  c85:=by kernel_rfl
  c127:=by kernel_rfl
  c143:=by kernel_rfl
  c145:=by kernel_rfl
  c167:=by kernel_rfl
  c168:=by kernel_rfl
  c171:=by kernel_rfl
  c173:=by kernel_rfl
  c175:=by kernel_rfl
  c210:=by kernel_rfl
  c212:=by kernel_rfl
  c213:=by kernel_rfl
  c232:=by kernel_rfl
  c233:=by kernel_rfl }
open Go.RowKit in
theorem Tryz.strconv_ParseInt_10_at64_ok (s:ByteArray) (hmax:s.size≤9223372036854775806) (v:Int) (h:Lib.parseIntB 64 s.data.toList=.ok v) (w:World) :
    Calls Tryz.prog 196 #[.string s,.int .i64 10,.int .i64 64] w fun e w'=>e=.returned (.tuple #[.int .i64 v,.nilIface])∧(w'=w∨∃t,w'=Lib.bytesWorld w 5 t):=Any.strconv_ParseInt_10_at64_ok Tryz.laysC174 s hmax v h w
open Go.RowKit in
theorem Tryz.strconv_ParseInt_10_at64_range_var (s:ByteArray) (hlim:s.size≤281474976710656) (h:Lib.parseIntB 64 s.data.toList=.range) (tp:TypeId) (p:Value) (w:World) (hvar:w.var? Tryz.prog "strconv.ErrRange"=some #[.iface tp p]) :
    Calls Tryz.prog 196 #[.string s,.int .i64 10,.int .i64 64] w fun e w'=> ∃N,e=.returned (.tuple #[.int .i64 (Lib.intSat 64 s.data.toList),.iface 238 (.pointer (some ⟨N,0,none⟩))])∧w.heap.size≤N∧w'.heap[N]?=some (.cells #[.string ⟨#[80,97,114,115,101,73,110,116]⟩,.string s,.iface tp p] 270 (0,0))∧Below w.heap.size w w':=Any.strconv_ParseInt_10_at64_range_var Tryz.laysC174 s hlim h tp p w hvar
def Tryz.laysGw17_ren:Go.Shelf.Ren:=⟨fun|17=>81|15=>116|20=>167|n=>n,fun|9=>9|23=>132|4=>4|3=>3|0=>0|21=>21|n=>n,fun|n=>n⟩
theorem Tryz.laysGw17:Go.Proofs.LaysGw.n17 Tryz.prog Tryz.laysGw17_ren:={
  mixed:=by kernel_rfl
  f15:=Tryz.func116.trans (congrArg some (by kernel_rfl))
  f17:=Tryz.func81.trans (congrArg some (by kernel_rfl))
  f20:=Tryz.func167.trans (congrArg some (by kernel_rfl))
  t0:=Tryz.underlying0
  a0:=Tryz.isAgg0
  z0:=Tryz.sizeOf0
  v0:=Tryz.zeroValue0
  i0:=by kernel_rfl
  t3:=Tryz.underlying3
  a3:=Tryz.isAgg3
  z3:=Tryz.sizeOf3
  v3:=Tryz.zeroValue3
  i3:=by kernel_rfl
  t4:=Tryz.underlying4
  a4:=Tryz.isAgg4
  z4:=Tryz.sizeOf4
  v4:=Tryz.zeroValue4
  i4:=by kernel_rfl
  t9:=Tryz.underlying9
  a9:=Tryz.isAgg9
  z9:=Tryz.sizeOf9
  v9:=Tryz.zeroValue9
  i9:=by kernel_rfl
  t21:=Tryz.underlying21
  a21:=Tryz.isAgg21
  z21:=Tryz.sizeOf21
  v21:=Tryz.zeroValue21
  i21:=by kernel_rfl
  t23:=Tryz.underlying132
  a23:=Tryz.isAgg132
  z23:=Tryz.sizeOf132
  v23:=Tryz.zeroValue132
  i23:=by kernel_rfl }
def Tryz.lays147_ren:Go.Shelf.Ren:=⟨fun|147=>122|221=>170|268=>207|138=>128|143=>130|195=>175|197=>132|218=>176|219=>179|260=>180|217=>168|225=>216|224=>217|267=>218|266=>205|314=>242|n=>n,fun|9=>9|3=>3|31=>53|4=>4|0=>0|105=>192|21=>21|5=>5|46=>198|119=>244|139=>247|138=>246|146=>276|51=>222|n=>n,fun|1=>0|3=>1|4=>2|n=>n⟩
theorem Tryz.lays147:Go.Proofs.Lays.n147 Tryz.prog Tryz.lays147_ren:={
  mixed:=by kernel_rfl
  f138:=Tryz.func128.trans (congrArg some (by kernel_rfl))
  f143:=Tryz.func130.trans (congrArg some (by kernel_rfl))
  f147:=Tryz.func122.trans (congrArg some (by kernel_rfl))
  f195:=Tryz.func175.trans (congrArg some (by kernel_rfl))
  f197:=Tryz.func132.trans (congrArg some (by kernel_rfl))
  f217:=Tryz.func168.trans (congrArg some (by kernel_rfl))
  f218:=Tryz.func176.trans (congrArg some (by kernel_rfl))
  f219:=Tryz.func179.trans (congrArg some (by kernel_rfl))
  f221:=Tryz.func170.trans (congrArg some (by kernel_rfl))
  f224:=Tryz.func217.trans (congrArg some (by kernel_rfl))
  f225:=Tryz.func216.trans (congrArg some (by kernel_rfl))
  f260:=Tryz.func180.trans (congrArg some (by kernel_rfl))
  f266:=Tryz.func205.trans (congrArg some (by kernel_rfl))
  f267:=Tryz.func218.trans (congrArg some (by kernel_rfl))
  f268:=Tryz.func207.trans (congrArg some (by kernel_rfl))
  f314:=Tryz.func242.trans (congrArg some (by kernel_rfl))
  t0:=Tryz.underlying0
  a0:=Tryz.isAgg0
  z0:=Tryz.sizeOf0
  v0:=Tryz.zeroValue0
  t3:=Tryz.underlying3
  a3:=Tryz.isAgg3
  z3:=Tryz.sizeOf3
  v3:=Tryz.zeroValue3
  t4:=Tryz.underlying4
  a4:=Tryz.isAgg4
  z4:=Tryz.sizeOf4
  v4:=Tryz.zeroValue4
  t5:=Tryz.underlying5
  a5:=Tryz.isAgg5
  z5:=Tryz.sizeOf5
  v5:=Tryz.zeroValue5
  t9:=Tryz.underlying9
  a9:=Tryz.isAgg9
  z9:=Tryz.sizeOf9
  v9:=Tryz.zeroValue9
  t21:=Tryz.underlying21
  a21:=Tryz.isAgg21
  z21:=Tryz.sizeOf21
  v21:=Tryz.zeroValue21
  t31:=Tryz.underlying53
  a31:=Tryz.isAgg53
  z31:=Tryz.sizeOf53
  v31:=Tryz.zeroValue53
  t46:=Tryz.underlying198
  a46:=Tryz.isAgg198
  z46:=Tryz.sizeOf198
  v46:=Tryz.zeroValue198
  t51:=Tryz.underlying222
  a51:=Tryz.isAgg222
  z51:=Tryz.sizeOf222
  v51:=Tryz.zeroValue222
  t105:=Tryz.underlying192
  a105:=Tryz.isAgg192
  z105:=Tryz.sizeOf192
  v105:=Tryz.zeroValue192
  t119:=Tryz.underlying244
  a119:=Tryz.isAgg244
  z119:=Tryz.sizeOf244
  t138:=Tryz.underlying246
  a138:=Tryz.isAgg246
  z138:=Tryz.sizeOf246
  v138:=Tryz.zeroValue246
  t139:=Tryz.underlying247
  a139:=Tryz.isAgg247
  z139:=Tryz.sizeOf247
  v139:=Tryz.zeroValue247
  t146:=Tryz.underlying276
  a146:=Tryz.isAgg276
  z146:=Tryz.sizeOf276
  v146:=Tryz.zeroValue276
  g1:=by kernel_rfl
  g3:=by kernel_rfl
  g4:=by kernel_rfl }
open Go.RowKit Go.Lib in
theorem Tryz.strings_SplitN (s sep:ByteArray) (n:Nat) (m:Int) (w:World) (hs:s.size<4294967281) (hm:w.cell? ⟨0,0,none⟩=some (.int .i64 m)) (h1:1≤sep.size) (hn:1≤n) (hn63:n≤9223372036854775807) :
    Calls Tryz.prog 122 #[.string s,.string sep,.int .i64 n] w fun e w'=>
      e=.returned (.slice (some ⟨w.heap.size,0,none⟩) (Lib.splitB sep 0 (min n (s.size+1)-1) s).length (min n (s.size+1)))∧w'=w.alloc (.cells (Lib.cellsOf (Lib.splitB sep 0 (min n (s.size+1)-1) s) (min n (s.size+1))) 9):=Any.strings_SplitN Tryz.lays147 (by kernel_rfl) s sep n m w hs hm h1 hn hn63
def Tryz.lays155_ren:Go.Shelf.Ren:=⟨fun|155=>50|154=>90|138=>128|165=>129|143=>130|166=>131|197=>132|169=>133|195=>175|218=>176|240=>177|241=>178|219=>179|260=>180|276=>214|277=>215|217=>168|225=>216|224=>217|267=>218|266=>205|314=>242|n=>n,fun|9=>9|3=>3|4=>4|72=>190|0=>0|76=>180|105=>192|21=>21|5=>5|70=>187|20=>20|37=>188|75=>179|127=>212|164=>67|46=>198|119=>244|139=>247|138=>246|146=>276|51=>222|80=>194|n=>n,fun|1=>0|3=>1|4=>2|n=>n⟩
theorem Tryz.lays155:Go.Proofs.Lays.n155 Tryz.prog Tryz.lays155_ren:={
  mixed:=by kernel_rfl
  f138:=Tryz.func128.trans (congrArg some (by kernel_rfl))
  f143:=Tryz.func130.trans (congrArg some (by kernel_rfl))
  f154:=Tryz.func90.trans (congrArg some (by kernel_rfl))
  f155:=Tryz.func50.trans (congrArg some (by kernel_rfl))
  f165:=Tryz.func129.trans (congrArg some (by kernel_rfl))
  f166:=Tryz.func131.trans (congrArg some (by kernel_rfl))
  f169:=Tryz.func133.trans (congrArg some (by kernel_rfl))
  f195:=Tryz.func175.trans (congrArg some (by kernel_rfl))
  f197:=Tryz.func132.trans (congrArg some (by kernel_rfl))
  f217:=Tryz.func168.trans (congrArg some (by kernel_rfl))
  f218:=Tryz.func176.trans (congrArg some (by kernel_rfl))
  f219:=Tryz.func179.trans (congrArg some (by kernel_rfl))
  f224:=Tryz.func217.trans (congrArg some (by kernel_rfl))
  f225:=Tryz.func216.trans (congrArg some (by kernel_rfl))
  f240:=Tryz.func177.trans (congrArg some (by kernel_rfl))
  f241:=Tryz.func178.trans (congrArg some (by kernel_rfl))
  f260:=Tryz.func180.trans (congrArg some (by kernel_rfl))
  f266:=Tryz.func205.trans (congrArg some (by kernel_rfl))
  f267:=Tryz.func218.trans (congrArg some (by kernel_rfl))
  f276:=Tryz.func214.trans (congrArg some (by kernel_rfl))
  f277:=Tryz.func215.trans (congrArg some (by kernel_rfl))
  f314:=Tryz.func242.trans (congrArg some (by kernel_rfl))
  t0:=Tryz.underlying0
  a0:=Tryz.isAgg0
  z0:=Tryz.sizeOf0
  v0:=Tryz.zeroValue0
  t3:=Tryz.underlying3
  a3:=Tryz.isAgg3
  z3:=Tryz.sizeOf3
  v3:=Tryz.zeroValue3
  t4:=Tryz.underlying4
  a4:=Tryz.isAgg4
  z4:=Tryz.sizeOf4
  v4:=Tryz.zeroValue4
  t5:=Tryz.underlying5
  a5:=Tryz.isAgg5
  z5:=Tryz.sizeOf5
  v5:=Tryz.zeroValue5
  t9:=Tryz.underlying9
  a9:=Tryz.isAgg9
  z9:=Tryz.sizeOf9
  v9:=Tryz.zeroValue9
  t20:=Tryz.underlying20
  a20:=Tryz.isAgg20
  z20:=Tryz.sizeOf20
  v20:=Tryz.zeroValue20
  t21:=Tryz.underlying21
  a21:=Tryz.isAgg21
  z21:=Tryz.sizeOf21
  v21:=Tryz.zeroValue21
  t37:=Tryz.underlying188
  a37:=Tryz.isAgg188
  z37:=Tryz.sizeOf188
  v37:=Tryz.zeroValue188
  t46:=Tryz.underlying198
  a46:=Tryz.isAgg198
  z46:=Tryz.sizeOf198
  v46:=Tryz.zeroValue198
  t51:=Tryz.underlying222
  a51:=Tryz.isAgg222
  z51:=Tryz.sizeOf222
  v51:=Tryz.zeroValue222
  t70:=Tryz.underlying187
  a70:=Tryz.isAgg187
  z70:=Tryz.sizeOf187
  v70:=Tryz.zeroValue187
  t72:=Tryz.underlying190
  a72:=Tryz.isAgg190
  z72:=Tryz.sizeOf190
  v72:=Tryz.zeroValue190
  t75:=Tryz.underlying179
  a75:=Tryz.isAgg179
  z75:=Tryz.sizeOf179
  v75:=Tryz.zeroValue179
  t76:=Tryz.underlying180
  a76:=Tryz.isAgg180
  z76:=Tryz.sizeOf180
  v76:=Tryz.zeroValue180
  t105:=Tryz.underlying192
  a105:=Tryz.isAgg192
  z105:=Tryz.sizeOf192
  v105:=Tryz.zeroValue192
  t119:=Tryz.underlying244
  a119:=Tryz.isAgg244
  z119:=Tryz.sizeOf244
  t127:=Tryz.underlying212
  a127:=Tryz.isAgg212
  z127:=Tryz.sizeOf212
  v127:=Tryz.zeroValue212
  t138:=Tryz.underlying246
  a138:=Tryz.isAgg246
  z138:=Tryz.sizeOf246
  v138:=Tryz.zeroValue246
  t139:=Tryz.underlying247
  a139:=Tryz.isAgg247
  z139:=Tryz.sizeOf247
  v139:=Tryz.zeroValue247
  t146:=Tryz.underlying276
  a146:=Tryz.isAgg276
  z146:=Tryz.sizeOf276
  v146:=Tryz.zeroValue276
  t164:=Tryz.underlying67
  a164:=Tryz.isAgg67
  z164:=Tryz.sizeOf67
  v164:=Tryz.zeroValue67
  g1:=by kernel_rfl
  g3:=by kernel_rfl
  g4:=by kernel_rfl }
theorem Tryz.Builder_Extra_155:Builder.Extra Tryz.prog Tryz.lays155_ren:={
  sizeBuilder:=by kernel_rfl
  liesBuilder:=by kernel_rfl
  t5:=Tryz.underlying5
  a5:=Tryz.isAgg5
  z5:=Tryz.sizeOf5
  v5:=Tryz.zeroValue5
  infoByte:=by kernel_rfl
  cellsByte:=by kernel_rfl
  sizeByte:=by kernel_rfl
  neB5:=by decide }
open Go.RowKit Go.Lib in
theorem Tryz.strings_ReplaceAll (s old new:ByteArray) (m:Int) (w:World) (hs:s.size<4294967281) (hm:w.cell? ⟨0,0,none⟩=some (.int .i64 m)) (h1:1≤old.size) (hlen:s.size+Lib.countB s old*new.size≤140737488355328) :
    Calls Tryz.prog 50 #[.string s,.string old,.string new] w fun e w'=>
      e=.returned (.string ⟨(Lib.replaceAll s.data.toList old.data.toList new.data.toList).toArray⟩)∧Below w.heap.size w w':=Any.strings_ReplaceAll Tryz.lays155 Tryz.Builder_Extra_155 s old new m w hs hm h1 hlen
def Tryz.lays197_ren:Go.Shelf.Ren:=⟨fun|197=>132|260=>180|n=>n,fun|9=>9|21=>21|3=>3|4=>4|5=>5|105=>192|119=>244|0=>0|46=>198|139=>247|138=>246|n=>n,fun|3=>1|4=>2|n=>n⟩
theorem Tryz.lays197:Go.Proofs.Lays.n197 Tryz.prog Tryz.lays197_ren:={
  mixed:=by kernel_rfl
  f197:=Tryz.func132.trans (congrArg some (by kernel_rfl))
  f260:=Tryz.func180.trans (congrArg some (by kernel_rfl))
  t0:=Tryz.underlying0
  a0:=Tryz.isAgg0
  z0:=Tryz.sizeOf0
  v0:=Tryz.zeroValue0
  t3:=Tryz.underlying3
  a3:=Tryz.isAgg3
  z3:=Tryz.sizeOf3
  v3:=Tryz.zeroValue3
  t4:=Tryz.underlying4
  a4:=Tryz.isAgg4
  z4:=Tryz.sizeOf4
  v4:=Tryz.zeroValue4
  t5:=Tryz.underlying5
  a5:=Tryz.isAgg5
  z5:=Tryz.sizeOf5
  v5:=Tryz.zeroValue5
  t9:=Tryz.underlying9
  a9:=Tryz.isAgg9
  z9:=Tryz.sizeOf9
  v9:=Tryz.zeroValue9
  t21:=Tryz.underlying21
  a21:=Tryz.isAgg21
  z21:=Tryz.sizeOf21
  v21:=Tryz.zeroValue21
  t46:=Tryz.underlying198
  a46:=Tryz.isAgg198
  z46:=Tryz.sizeOf198
  v46:=Tryz.zeroValue198
  t105:=Tryz.underlying192
  a105:=Tryz.isAgg192
  z105:=Tryz.sizeOf192
  v105:=Tryz.zeroValue192
  t119:=Tryz.underlying244
  a119:=Tryz.isAgg244
  z119:=Tryz.sizeOf244
  t138:=Tryz.underlying246
  a138:=Tryz.isAgg246
  z138:=Tryz.sizeOf246
  v138:=Tryz.zeroValue246
  t139:=Tryz.underlying247
  a139:=Tryz.isAgg247
  z139:=Tryz.sizeOf247
  v139:=Tryz.zeroValue247
  g3:=by kernel_rfl
  g4:=by kernel_rfl }
def Tryz.lays260_ren:Go.Shelf.Ren:=⟨fun|260=>180|n=>n,fun|9=>9|21=>21|3=>3|4=>4|5=>5|119=>244|0=>0|46=>198|139=>247|138=>246|n=>n,fun|3=>1|4=>2|n=>n⟩
theorem Tryz.lays260:Go.Proofs.Lays.n260 Tryz.prog Tryz.lays260_ren:={
  mixed:=by kernel_rfl
  f260:=Tryz.func180.trans (congrArg some (by kernel_rfl))
  t0:=Tryz.underlying0
  a0:=Tryz.isAgg0
  z0:=Tryz.sizeOf0
  v0:=Tryz.zeroValue0
  t3:=Tryz.underlying3
  a3:=Tryz.isAgg3
  z3:=Tryz.sizeOf3
  v3:=Tryz.zeroValue3
  t4:=Tryz.underlying4
  a4:=Tryz.isAgg4
  z4:=Tryz.sizeOf4
  v4:=Tryz.zeroValue4
  t5:=Tryz.underlying5
  a5:=Tryz.isAgg5
  z5:=Tryz.sizeOf5
  v5:=Tryz.zeroValue5
  t9:=Tryz.underlying9
  a9:=Tryz.isAgg9
  z9:=Tryz.sizeOf9
  v9:=Tryz.zeroValue9
  t21:=Tryz.underlying21
  a21:=Tryz.isAgg21
  z21:=Tryz.sizeOf21
  v21:=Tryz.zeroValue21
  t46:=Tryz.underlying198
  a46:=Tryz.isAgg198
  z46:=Tryz.sizeOf198
  v46:=Tryz.zeroValue198
  t119:=Tryz.underlying244
  a119:=Tryz.isAgg244
  z119:=Tryz.sizeOf244
  t138:=Tryz.underlying246
  a138:=Tryz.isAgg246
  z138:=Tryz.sizeOf246
  v138:=Tryz.zeroValue246
  t139:=Tryz.underlying247
  a139:=Tryz.isAgg247
  z139:=Tryz.sizeOf247
  v139:=Tryz.zeroValue247
  g3:=by kernel_rfl
  g4:=by kernel_rfl }
open Go.RowKit Go.Lib in
theorem Tryz.utf8_DecodeRuneInString (s:ByteArray) (w:World) (hT:Lib.Utf8Tabs 1 2 w) :
    Calls Tryz.prog 132 #[.string s] w fun e w'=>e=.returned (.tuple #[.int .i32 (Lib.decodeGo s).1,.int .i64 (Lib.decodeGo s).2])∧Below w.heap.size w w':=Any.utf8_DecodeRuneInString Tryz.lays197 s w hT
open Go.RowKit Go.Lib in
theorem Tryz.strings_ContainsFunc_grows (g:Nat) (lb:Array Value) (eg:∀args w,(callFunc g args).run Tryz.prog w=.ok (.enter g args) w) (p:Nat→Bool) (s:ByteArray) (w:World) (hp:PredGrows Tryz.prog g lb p w) :
    Calls Tryz.prog 81 #[.string s,.func (.func g) #[] lb] w fun e w'=>e=.returned (.bool (decide (0≤Lib.idxFunc p true s)))∧Below w.heap.size w w':=Any.strings_ContainsFunc_grows Tryz.laysGw17 g lb eg p s w hp
def Tryz.lays196_ren:Go.Shelf.Ren:=⟨fun|196=>197|259=>226|n=>n,fun|9=>9|4=>4|3=>3|5=>5|12=>12|119=>244|0=>0|46=>198|139=>247|138=>246|53=>224|n=>n,fun|3=>1|4=>2|n=>n⟩
theorem Tryz.lays196:Go.Proofs.Lays.n196 Tryz.prog Tryz.lays196_ren:={
  mixed:=by kernel_rfl
  f196:=Tryz.func197.trans (congrArg some (by kernel_rfl))
  f259:=Tryz.func226.trans (congrArg some (by kernel_rfl))
  t0:=Tryz.underlying0
  a0:=Tryz.isAgg0
  z0:=Tryz.sizeOf0
  v0:=Tryz.zeroValue0
  t3:=Tryz.underlying3
  a3:=Tryz.isAgg3
  z3:=Tryz.sizeOf3
  v3:=Tryz.zeroValue3
  t4:=Tryz.underlying4
  a4:=Tryz.isAgg4
  z4:=Tryz.sizeOf4
  v4:=Tryz.zeroValue4
  t5:=Tryz.underlying5
  a5:=Tryz.isAgg5
  z5:=Tryz.sizeOf5
  v5:=Tryz.zeroValue5
  t9:=Tryz.underlying9
  a9:=Tryz.isAgg9
  z9:=Tryz.sizeOf9
  v9:=Tryz.zeroValue9
  t12:=Tryz.underlying12
  a12:=Tryz.isAgg12
  z12:=Tryz.sizeOf12
  v12:=Tryz.zeroValue12
  t46:=Tryz.underlying198
  a46:=Tryz.isAgg198
  z46:=Tryz.sizeOf198
  v46:=Tryz.zeroValue198
  t53:=Tryz.underlying224
  a53:=Tryz.isAgg224
  z53:=Tryz.sizeOf224
  v53:=Tryz.zeroValue224
  t119:=Tryz.underlying244
  a119:=Tryz.isAgg244
  z119:=Tryz.sizeOf244
  t138:=Tryz.underlying246
  a138:=Tryz.isAgg246
  z138:=Tryz.sizeOf246
  v138:=Tryz.zeroValue246
  t139:=Tryz.underlying247
  a139:=Tryz.isAgg247
  z139:=Tryz.sizeOf247
  v139:=Tryz.zeroValue247
  g3:=by kernel_rfl
  g4:=by kernel_rfl }
open Go.RowKit Go.Lib in
theorem Tryz.utf8_ValidString (s:ByteArray) (w:World) (hs:s.size≤9223372036854775807) (hT:Lib.Utf8Tabs 1 2 w) :
    Calls Tryz.prog 197 #[.string s] w fun e w'=>e=.returned (.bool (Lib.validD s.data.toList))∧Below w.heap.size w w':=Any.utf8_ValidString Tryz.lays196 s w hs hT
def Tryz.keys54_ren:Go.Shelf.Ren:=⟨fun|7=>54|10=>93|n=>n,fun|23=>85|26=>9|3=>36|28=>108|0=>0|27=>107|33=>89|4=>4|n=>n,fun|n=>n⟩
theorem Tryz.keys54:Go.Proofs.SlLaysZ.n7 Tryz.prog Tryz.keys54_ren:={
  mixed:=by kernel_rfl
  f7:=⟨Tryz.f54.name,by decide,Tryz.func54.trans (congrArg some (by kernel_rfl))⟩
  f10:=⟨Tryz.f93.name,by decide,Tryz.func93.trans (congrArg some (by kernel_rfl))⟩
  t0:=Tryz.underlying0
  a0:=Tryz.isAgg0
  z0:=Tryz.sizeOf0
  v0:=Tryz.zeroValue0
  t4:=Tryz.underlying4
  a4:=Tryz.isAgg4
  z4:=Tryz.sizeOf4
  v4:=Tryz.zeroValue4
  t23:=Tryz.underlying85
  a23:=Tryz.isAgg85
  z23:=Tryz.sizeOf85
  v23:=Tryz.zeroValue85
  t26:=Tryz.underlying9
  a26:=Tryz.isAgg9
  z26:=Tryz.sizeOf9
  v26:=Tryz.zeroValue9
  t27:=Tryz.underlying107
  a27:=Tryz.isAgg107
  z27:=Tryz.sizeOf107
  v27:=Tryz.zeroValue107
  t28:=Tryz.underlying108
  a28:=Tryz.isAgg108
  z28:=Tryz.sizeOf108
  v28:=Tryz.zeroValue108
  t33:=Tryz.underlying89
  a33:=Tryz.isAgg89
  z33:=Tryz.sizeOf89
  v33:=Tryz.zeroValue89 }
def Tryz.sorted53_ren:Go.Shelf.Ren:=⟨fun|6=>53|8=>91|9=>92|11=>134|13=>136|12=>135|23=>190|24=>191|14=>181|15=>182|16=>183|17=>184|18=>185|19=>186|20=>187|21=>188|22=>189|25=>219|26=>220|27=>221|28=>222|29=>223|30=>224|31=>243|n=>n,fun|26=>9|28=>108|24=>53|0=>0|3=>3|37=>198|48=>222|50=>224|4=>4|40=>215|39=>214|45=>113|5=>5|9=>9|51=>248|55=>252|57=>278|58=>279|33=>89|n=>n,fun|n=>n⟩
theorem Tryz.sorted53:Go.Proofs.SlLaysZ.n6 Tryz.prog Tryz.sorted53_ren:={
  mixed:=by kernel_rfl
  f6:=⟨Tryz.f53.name,by decide,Tryz.func53.trans (congrArg some (by kernel_rfl))⟩
  f8:=⟨Tryz.f91.name,by decide,Tryz.func91.trans (congrArg some (by kernel_rfl))⟩
  f11:=⟨Tryz.f134.name,by decide,Tryz.func134.trans (congrArg some (by kernel_rfl))⟩
  t0:=Tryz.underlying0
  a0:=Tryz.isAgg0
  z0:=Tryz.sizeOf0
  v0:=Tryz.zeroValue0
  t24:=Tryz.underlying53
  a24:=Tryz.isAgg53
  z24:=Tryz.sizeOf53
  v24:=Tryz.zeroValue53
  t26:=Tryz.underlying9
  a26:=Tryz.isAgg9
  z26:=Tryz.sizeOf9
  v26:=Tryz.zeroValue9
  t28:=Tryz.underlying108
  a28:=Tryz.isAgg108
  z28:=Tryz.sizeOf108
  v28:=Tryz.zeroValue108
  i26:=by kernel_rfl }
def Tryz.sort92_ren:Go.Shelf.Ren:=⟨fun|6=>92|8=>136|9=>135|19=>190|20=>191|21=>181|22=>182|23=>183|24=>184|25=>185|26=>186|27=>187|28=>188|29=>189|36=>219|31=>220|32=>221|37=>222|38=>223|39=>224|41=>243|n=>n,fun|27=>53|29=>9|3=>3|32=>198|26=>53|0=>0|44=>222|46=>224|4=>4|36=>215|35=>214|41=>113|5=>5|9=>9|53=>248|57=>252|63=>278|64=>279|n=>n,fun|n=>n⟩
theorem Tryz.sort92:Go.Proofs.SlLaysM.n6 Tryz.prog Tryz.sort92_ren:={
  mixed:=by kernel_rfl
  f6:=⟨Tryz.f92.name,by decide,Tryz.func92.trans (congrArg some (by kernel_rfl))⟩
  f8:=Tryz.func136.trans (congrArg some (by kernel_rfl))
  f9:=⟨Tryz.f135.name,by decide,Tryz.func135.trans (congrArg some (by kernel_rfl))⟩
  f19:=Tryz.func190.trans (congrArg some (by kernel_rfl))
  f20:=Tryz.func191.trans (congrArg some (by kernel_rfl))
  f21:=⟨Tryz.f181.name,by decide,Tryz.func181.trans (congrArg some (by kernel_rfl))⟩
  f22:=⟨Tryz.f182.name,by decide,Tryz.func182.trans (congrArg some (by kernel_rfl))⟩
  f23:=⟨Tryz.f183.name,by decide,Tryz.func183.trans (congrArg some (by kernel_rfl))⟩
  f24:=⟨Tryz.f184.name,by decide,Tryz.func184.trans (congrArg some (by kernel_rfl))⟩
  f25:=⟨Tryz.f185.name,by decide,Tryz.func185.trans (congrArg some (by kernel_rfl))⟩
  f26:=⟨Tryz.f186.name,by decide,Tryz.func186.trans (congrArg some (by kernel_rfl))⟩
  f27:=⟨Tryz.f187.name,by decide,Tryz.func187.trans (congrArg some (by kernel_rfl))⟩
  f28:=⟨Tryz.f188.name,by decide,Tryz.func188.trans (congrArg some (by kernel_rfl))⟩
  f29:=⟨Tryz.f189.name,by decide,Tryz.func189.trans (congrArg some (by kernel_rfl))⟩
  f31:=Tryz.func220.trans (congrArg some (by kernel_rfl))
  f32:=Tryz.func221.trans (congrArg some (by kernel_rfl))
  f36:=⟨Tryz.f219.name,by decide,Tryz.func219.trans (congrArg some (by kernel_rfl))⟩
  f37:=⟨Tryz.f222.name,by decide,Tryz.func222.trans (congrArg some (by kernel_rfl))⟩
  f38:=⟨Tryz.f223.name,by decide,Tryz.func223.trans (congrArg some (by kernel_rfl))⟩
  f39:=⟨Tryz.f224.name,by decide,Tryz.func224.trans (congrArg some (by kernel_rfl))⟩
  f41:=⟨Tryz.f243.name,by decide,Tryz.func243.trans (congrArg some (by kernel_rfl))⟩
  t0:=Tryz.underlying0
  a0:=Tryz.isAgg0
  z0:=Tryz.sizeOf0
  v0:=Tryz.zeroValue0
  t3:=Tryz.underlying3
  a3:=Tryz.isAgg3
  z3:=Tryz.sizeOf3
  v3:=Tryz.zeroValue3
  t4:=Tryz.underlying4
  a4:=Tryz.isAgg4
  z4:=Tryz.sizeOf4
  v4:=Tryz.zeroValue4
  t5:=Tryz.underlying5
  a5:=Tryz.isAgg5
  z5:=Tryz.sizeOf5
  v5:=Tryz.zeroValue5
  t9:=Tryz.underlying9
  a9:=Tryz.isAgg9
  z9:=Tryz.sizeOf9
  v9:=Tryz.zeroValue9
  t26:=Tryz.underlying53
  a26:=Tryz.isAgg53
  z26:=Tryz.sizeOf53
  v26:=Tryz.zeroValue53
  t27:=Tryz.underlying53
  a27:=Tryz.isAgg53
  z27:=Tryz.sizeOf53
  v27:=Tryz.zeroValue53
  t29:=Tryz.underlying9
  a29:=Tryz.isAgg9
  z29:=Tryz.sizeOf9
  v29:=Tryz.zeroValue9
  t32:=Tryz.underlying198
  a32:=Tryz.isAgg198
  z32:=Tryz.sizeOf198
  v32:=Tryz.zeroValue198
  t35:=Tryz.underlying214
  a35:=Tryz.isAgg214
  z35:=Tryz.sizeOf214
  v35:=Tryz.zeroValue214
  t36:=Tryz.underlying215
  a36:=Tryz.isAgg215
  z36:=Tryz.sizeOf215
  v36:=Tryz.zeroValue215
  t41:=Tryz.underlying113
  a41:=Tryz.isAgg113
  z41:=Tryz.sizeOf113
  v41:=Tryz.zeroValue113
  t44:=Tryz.underlying222
  a44:=Tryz.isAgg222
  z44:=Tryz.sizeOf222
  v44:=Tryz.zeroValue222
  t46:=Tryz.underlying224
  a46:=Tryz.isAgg224
  z46:=Tryz.sizeOf224
  v46:=Tryz.zeroValue224
  t53:=Tryz.underlying248
  a53:=Tryz.isAgg248
  z53:=Tryz.sizeOf248
  v53:=Tryz.zeroValue248
  t57:=Tryz.underlying252
  a57:=Tryz.isAgg252
  z57:=Tryz.sizeOf252
  v57:=Tryz.zeroValue252
  t63:=Tryz.underlying278
  a63:=Tryz.isAgg278
  z63:=Tryz.sizeOf278
  v63:=Tryz.zeroValue278
  t64:=Tryz.underlying279
  a64:=Tryz.isAgg279
  z64:=Tryz.sizeOf279
  v64:=Tryz.zeroValue279 }
def Tryz.mclone42_ren:Go.Shelf.Ren:=⟨fun|5=>42|7=>84|n=>n,fun|23=>85|25=>9|3=>36|4=>4|20=>20|n=>n,fun|n=>n⟩
theorem Tryz.mclone42:Go.Proofs.SlLaysW.n5 Tryz.prog Tryz.mclone42_ren:={
  mixed:=by kernel_rfl
  f5:=⟨Tryz.f42.name,by decide,Tryz.func42.trans (congrArg some (by kernel_rfl))⟩
  f7:=Tryz.func84.trans (congrArg some (by kernel_rfl))
  t4:=Tryz.underlying4
  a4:=Tryz.isAgg4
  z4:=Tryz.sizeOf4
  v4:=Tryz.zeroValue4
  t20:=Tryz.underlying20
  a20:=Tryz.isAgg20
  z20:=Tryz.sizeOf20
  v20:=Tryz.zeroValue20
  t23:=Tryz.underlying85
  a23:=Tryz.isAgg85
  z23:=Tryz.sizeOf85
  v23:=Tryz.zeroValue85 }
end Go.Proofs
