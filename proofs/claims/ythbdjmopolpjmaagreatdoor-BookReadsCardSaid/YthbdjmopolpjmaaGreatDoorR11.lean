/- Part 11 of the proof. -/
import Derived.Shelf.Slices.Clone
import Derived.Shelf.Strconv.Atoi
import Derived.Shelf.Strings.Cut
import Derived.Shelf.Strings.Prefix
import Derived.Shelf.Strings.Runes
import Derived.Shelf.Strings.Split
import Derived.Shelf.Strings.Trim
import Derived.Test.YthbdjmopolpjmaaGreatDoorR10
set_option linter.unusedVariables false
set_option linter.unusedSimpArgs false
set_option maxHeartbeats 8000000
set_option maxRecDepth 100000
namespace Go.Proofs
open Go.Shelf
def Tryz.Le:Go.Shelf.Ren:=⟨fun|161=>188|231=>221|227=>222|233=>223|235=>224|228=>244|197=>149|151=>245|260=>198|152=>260|137=>220|119=>264|224=>141|225=>140|217=>139|266=>184|n=>n,fun|9=>9|4=>4|3=>3|5=>5|117=>306|116=>305|0=>0|124=>309|105=>223|21=>21|119=>253|46=>97|139=>314|138=>313|n=>n,fun|3=>4|4=>5|n=>n⟩
theorem Tryz.lays161:Go.Proofs.Lays.n161 Tryz.prog Tryz.Le:={
 mixed:=by kernel_rfl
 f119:=Tryz.func264.trans (congrArg some (by kernel_rfl))
 f137:=Tryz.func220.trans (congrArg some (by kernel_rfl))
 f151:=Tryz.func245.trans (congrArg some (by kernel_rfl))
 f152:=Tryz.func260.trans (congrArg some (by kernel_rfl))
 f161:=Tryz.func188.trans (congrArg some (by kernel_rfl))
 f197:=Tryz.func149.trans (congrArg some (by kernel_rfl))
 f217:=Tryz.func139.trans (congrArg some (by kernel_rfl))
 f224:=Tryz.func141.trans (congrArg some (by kernel_rfl))
 f225:=Tryz.func140.trans (congrArg some (by kernel_rfl))
 f227:=Tryz.func222.trans (congrArg some (by kernel_rfl))
 f228:=Tryz.func244.trans (congrArg some (by kernel_rfl))
 f231:=Tryz.func221.trans (congrArg some (by kernel_rfl))
 f233:=Tryz.func223.trans (congrArg some (by kernel_rfl))
 f235:=Tryz.func224.trans (congrArg some (by kernel_rfl))
 f260:=Tryz.func198.trans (congrArg some (by kernel_rfl))
 f266:=Tryz.func184.trans (congrArg some (by kernel_rfl))
 t0:=Tryz.underlying0
 a0:=Tryz.isAgg0
 z0:=Tryz.sizeOf0
 v0:=Tryz.zeroValue0
 t3:=Tryz.underlying3
 a3:=Tryz.isAgg3
 z3:=Tryz.sizeOf3
 v3:=Tryz.zeroValue3
 t4:=Tryz.underlying4
 a4:=Tryz.isAgg4
 z4:=Tryz.sizeOf4
 v4:=Tryz.zeroValue4
 t5:=Tryz.underlying5
 a5:=Tryz.isAgg5
 z5:=Tryz.sizeOf5
 v5:=Tryz.zeroValue5
 t9:=Tryz.underlying9
 a9:=Tryz.isAgg9
 z9:=Tryz.sizeOf9
 v9:=Tryz.zeroValue9
 t21:=Tryz.underlying21
 a21:=Tryz.isAgg21
 z21:=Tryz.sizeOf21
 v21:=Tryz.zeroValue21
 t46:=Tryz.underlying97
 a46:=Tryz.isAgg97
 z46:=Tryz.sizeOf97
 v46:=Tryz.zeroValue97
 t105:=Tryz.underlying223
 a105:=Tryz.isAgg223
 z105:=Tryz.sizeOf223
 v105:=Tryz.zeroValue223
 t116:=Tryz.underlying305
 a116:=Tryz.isAgg305
 z116:=Tryz.sizeOf305
 t117:=Tryz.underlying306
 a117:=Tryz.isAgg306
 z117:=Tryz.sizeOf306
 v117:=Tryz.zeroValue306
 t119:=Tryz.underlying253
 a119:=Tryz.isAgg253
 z119:=Tryz.sizeOf253
 t124:=Tryz.underlying309
 a124:=Tryz.isAgg309
 z124:=Tryz.sizeOf309
 v124:=Tryz.zeroValue309
 t138:=Tryz.underlying313
 a138:=Tryz.isAgg313
 z138:=Tryz.sizeOf313
 v138:=Tryz.zeroValue313
 t139:=Tryz.underlying314
 a139:=Tryz.isAgg314
 z139:=Tryz.sizeOf314
 v139:=Tryz.zeroValue314
 g3:=by kernel_rfl
 g4:=by kernel_rfl}
open Go.RowKit in
theorem Tryz.strings_TrimLeft_one (s:ByteArray)(c:UInt8)(hc:c.toNat<128)(w:World):
  Calls Tryz.prog 188 #[.string s,.string ⟨#[c]⟩] w fun e w'=>e= .returned (.string ⟨(Lib.trimLeftB s.data.toList c).toArray⟩)∧w'=w:=Any.strings_TrimLeft_one Tryz.lays161 s c hc w
def Tryz.La:Go.Shelf.Ren:=⟨fun|137=>220|217=>139|266=>184|n=>n,fun|9=>9|5=>5|3=>3|n=>n,fun|n=>n⟩
theorem Tryz.lays137:Go.Proofs.Lays.n137 Tryz.prog Tryz.La:={
 mixed:=by kernel_rfl
 f137:=Tryz.func220.trans (congrArg some (by kernel_rfl))
 f217:=Tryz.func139.trans (congrArg some (by kernel_rfl))
 f266:=Tryz.func184.trans (congrArg some (by kernel_rfl))
 t3:=Tryz.underlying3
 a3:=Tryz.isAgg3
 z3:=Tryz.sizeOf3
 v3:=Tryz.zeroValue3
 t5:=Tryz.underlying5
 a5:=Tryz.isAgg5
 z5:=Tryz.sizeOf5
 v5:=Tryz.zeroValue5
 t9:=Tryz.underlying9
 a9:=Tryz.isAgg9
 z9:=Tryz.sizeOf9
 v9:=Tryz.zeroValue9}
open Go.RowKit in
theorem Tryz.strings_IndexByte (s:ByteArray)(c:Int)(w:World):
  Calls Tryz.prog 220 #[.string s,.int .u8 c] w fun e w'=>e= .returned (.int .i64 (Lib.indexByte s.data.toList c.toNat.toUInt8))∧w'=w:=Any.strings_IndexByte Tryz.lays137 s c w
def Tryz.Lh:Go.Shelf.Ren:=⟨fun|172=>201|244=>231|245=>232|247=>248|279=>249|280=>250|281=>251|282=>252|287=>261|316=>262|171=>31|205=>263|321=>265|322=>266|243=>62|246=>105|283=>135|284=>136|285=>137|286=>138|129=>104|317=>180|318=>181|319=>182|320=>183|337=>218|338=>219|n=>n,fun|9=>9|3=>3|75=>44|76=>149|4=>4|5=>5|167=>330|37=>50|0=>0|85=>331|2=>2|168=>333|53=>162|175=>340|46=>97|210=>343|127=>199|145=>349|143=>347|21=>21|171=>209|173=>211|212=>271|51=>131|20=>20|213=>272|232=>326|233=>327|80=>89|n=>n,fun|15=>8|16=>9|17=>3|18=>6|19=>7|n=>n⟩
theorem Tryz.lays172:Go.Proofs.Lays.n172 Tryz.prog Tryz.Lh:={
 mixed:=by kernel_rfl
 f129:=Tryz.func104.trans (congrArg some (by kernel_rfl))
 f171:=Tryz.func31.trans (congrArg some (by kernel_rfl))
 f172:=Tryz.func201.trans (congrArg some (by kernel_rfl))
 f205:=Tryz.func263.trans (congrArg some (by kernel_rfl))
 f243:=Tryz.func62.trans (congrArg some (by kernel_rfl))
 f244:=Tryz.func231.trans (congrArg some (by kernel_rfl))
 f245:=Tryz.func232.trans (congrArg some (by kernel_rfl))
 f246:=Tryz.func105.trans (congrArg some (by kernel_rfl))
 f247:=Tryz.func248.trans (congrArg some (by kernel_rfl))
 f279:=Tryz.func249.trans (congrArg some (by kernel_rfl))
 f280:=Tryz.func250.trans (congrArg some (by kernel_rfl))
 f281:=Tryz.func251.trans (congrArg some (by kernel_rfl))
 f282:=Tryz.func252.trans (congrArg some (by kernel_rfl))
 f283:=Tryz.func135.trans (congrArg some (by kernel_rfl))
 f284:=Tryz.func136.trans (congrArg some (by kernel_rfl))
 f285:=Tryz.func137.trans (congrArg some (by kernel_rfl))
 f286:=Tryz.func138.trans (congrArg some (by kernel_rfl))
 f287:=Tryz.func261.trans (congrArg some (by kernel_rfl))
 f316:=Tryz.func262.trans (congrArg some (by kernel_rfl))
 f317:=Tryz.func180.trans (congrArg some (by kernel_rfl))
 f318:=Tryz.func181.trans (congrArg some (by kernel_rfl))
 f319:=Tryz.func182.trans (congrArg some (by kernel_rfl))
 f320:=Tryz.func183.trans (congrArg some (by kernel_rfl))
 f321:=Tryz.func265.trans (congrArg some (by kernel_rfl))
 f322:=Tryz.func266.trans (congrArg some (by kernel_rfl))
 f337:=Tryz.func218.trans (congrArg some (by kernel_rfl))
 f338:=Tryz.func219.trans (congrArg some (by kernel_rfl))
 t0:=Tryz.underlying0
 a0:=Tryz.isAgg0
 z0:=Tryz.sizeOf0
 v0:=Tryz.zeroValue0
 t2:=Tryz.underlying2
 a2:=Tryz.isAgg2
 z2:=Tryz.sizeOf2
 v2:=Tryz.zeroValue2
 t3:=Tryz.underlying3
 a3:=Tryz.isAgg3
 z3:=Tryz.sizeOf3
 v3:=Tryz.zeroValue3
 t4:=Tryz.underlying4
 a4:=Tryz.isAgg4
 z4:=Tryz.sizeOf4
 v4:=Tryz.zeroValue4
 t5:=Tryz.underlying5
 a5:=Tryz.isAgg5
 z5:=Tryz.sizeOf5
 v5:=Tryz.zeroValue5
 t9:=Tryz.underlying9
 a9:=Tryz.isAgg9
 z9:=Tryz.sizeOf9
 v9:=Tryz.zeroValue9
 t20:=Tryz.underlying20
 a20:=Tryz.isAgg20
 z20:=Tryz.sizeOf20
 v20:=Tryz.zeroValue20
 t21:=Tryz.underlying21
 a21:=Tryz.isAgg21
 z21:=Tryz.sizeOf21
 v21:=Tryz.zeroValue21
 t37:=Tryz.underlying50
 a37:=Tryz.isAgg50
 z37:=Tryz.sizeOf50
 v37:=Tryz.zeroValue50
 t46:=Tryz.underlying97
 a46:=Tryz.isAgg97
 z46:=Tryz.sizeOf97
 v46:=Tryz.zeroValue97
 t51:=Tryz.underlying131
 a51:=Tryz.isAgg131
 z51:=Tryz.sizeOf131
 v51:=Tryz.zeroValue131
 t53:=Tryz.underlying162
 a53:=Tryz.isAgg162
 z53:=Tryz.sizeOf162
 v53:=Tryz.zeroValue162
 t75:=Tryz.underlying44
 a75:=Tryz.isAgg44
 z75:=Tryz.sizeOf44
 v75:=Tryz.zeroValue44
 t76:=Tryz.underlying149
 a76:=Tryz.isAgg149
 z76:=Tryz.sizeOf149
 v76:=Tryz.zeroValue149
 t85:=Tryz.underlying331
 a85:=Tryz.isAgg331
 z85:=Tryz.sizeOf331
 v85:=Tryz.zeroValue331
 t127:=Tryz.underlying199
 a127:=Tryz.isAgg199
 z127:=Tryz.sizeOf199
 v127:=Tryz.zeroValue199
 t143:=Tryz.underlying347
 a143:=Tryz.isAgg347
 z143:=Tryz.sizeOf347
 v143:=Tryz.zeroValue347
 t145:=Tryz.underlying349
 a145:=Tryz.isAgg349
 z145:=Tryz.sizeOf349
 v145:=Tryz.zeroValue349
 t167:=Tryz.underlying330
 a167:=Tryz.isAgg330
 z167:=Tryz.sizeOf330
 v167:=Tryz.zeroValue330
 t168:=Tryz.underlying333
 a168:=Tryz.isAgg333
 z168:=Tryz.sizeOf333
 v168:=Tryz.zeroValue333
 t171:=Tryz.underlying209
 a171:=Tryz.isAgg209
 z171:=Tryz.sizeOf209
 v171:=Tryz.zeroValue209
 t173:=Tryz.underlying211
 a173:=Tryz.isAgg211
 z173:=Tryz.sizeOf211
 v173:=Tryz.zeroValue211
 t175:=Tryz.underlying340
 a175:=Tryz.isAgg340
 z175:=Tryz.sizeOf340
 v175:=Tryz.zeroValue340
 t210:=Tryz.underlying343
 a210:=Tryz.isAgg343
 z210:=Tryz.sizeOf343
 v210:=Tryz.zeroValue343
 t212:=Tryz.underlying271
 a212:=Tryz.isAgg271
 z212:=Tryz.sizeOf271
 v212:=Tryz.zeroValue271
 t213:=Tryz.underlying272
 a213:=Tryz.isAgg272
 z213:=Tryz.sizeOf272
 t232:=Tryz.underlying326
 a232:=Tryz.isAgg326
 z232:=Tryz.sizeOf326
 v232:=Tryz.zeroValue326
 t233:=Tryz.underlying327
 a233:=Tryz.isAgg327
 z233:=Tryz.sizeOf327
 v233:=Tryz.zeroValue327
 g15:=by kernel_rfl
 g16:=by kernel_rfl
 g17:=by kernel_rfl
 g18:=by kernel_rfl
 g19:=by kernel_rfl}
open Go.RowKit in
theorem Tryz.strconv_Atoi (s:ByteArray)(n:Int)(hl:s.size≤18)(h:Lib.atoi s.data.toList=some n)(w:World):
  Calls Tryz.prog 201 #[.string s] w fun e w'=>e= .returned (.tuple #[.int .i64 n,.nilIface])∧∃t,w'=Lib.bytesWorld w 5 t:=Any.strconv_Atoi Tryz.lays172 s n hl h w
def Tryz.Ld:Go.Shelf.Ren:=⟨fun|145=>37|220=>69|219=>106|217=>139|225=>140|224=>141|267=>142|266=>184|314=>185|n=>n,fun|9=>9|4=>4|59=>73|3=>3|5=>5|46=>97|146=>273|51=>131|n=>n,fun|1=>2|n=>n⟩
theorem Tryz.lays145:Go.Proofs.Lays.n145 Tryz.prog Tryz.Ld:={
 mixed:=by kernel_rfl
 f145:=Tryz.func37.trans (congrArg some (by kernel_rfl))
 f217:=Tryz.func139.trans (congrArg some (by kernel_rfl))
 f219:=Tryz.func106.trans (congrArg some (by kernel_rfl))
 f220:=Tryz.func69.trans (congrArg some (by kernel_rfl))
 f224:=Tryz.func141.trans (congrArg some (by kernel_rfl))
 f225:=Tryz.func140.trans (congrArg some (by kernel_rfl))
 f266:=Tryz.func184.trans (congrArg some (by kernel_rfl))
 f267:=Tryz.func142.trans (congrArg some (by kernel_rfl))
 f314:=Tryz.func185.trans (congrArg some (by kernel_rfl))
 t3:=Tryz.underlying3
 a3:=Tryz.isAgg3
 z3:=Tryz.sizeOf3
 v3:=Tryz.zeroValue3
 t4:=Tryz.underlying4
 a4:=Tryz.isAgg4
 z4:=Tryz.sizeOf4
 v4:=Tryz.zeroValue4
 t5:=Tryz.underlying5
 a5:=Tryz.isAgg5
 z5:=Tryz.sizeOf5
 v5:=Tryz.zeroValue5
 t9:=Tryz.underlying9
 a9:=Tryz.isAgg9
 z9:=Tryz.sizeOf9
 v9:=Tryz.zeroValue9
 t46:=Tryz.underlying97
 a46:=Tryz.isAgg97
 z46:=Tryz.sizeOf97
 v46:=Tryz.zeroValue97
 t51:=Tryz.underlying131
 a51:=Tryz.isAgg131
 z51:=Tryz.sizeOf131
 v51:=Tryz.zeroValue131
 t59:=Tryz.underlying73
 a59:=Tryz.isAgg73
 z59:=Tryz.sizeOf73
 v59:=Tryz.zeroValue73
 t146:=Tryz.underlying273
 a146:=Tryz.isAgg273
 z146:=Tryz.sizeOf273
 v146:=Tryz.zeroValue273
 g1:=by kernel_rfl}
open Go.RowKit Go.Lib in
theorem Tryz.strings_Cut (s sep:ByteArray)(m:Int)(w:World)(hs:s.size<4294967281)(hm:w.cell? ⟨2,0,none⟩=some (.int .i64 m)):
  Calls Tryz.prog 37 #[.string s,.string sep] w fun e w'=>e= .returned (.tuple #[.string ⟨(Lib.cut s.data.toList sep.data.toList).1.toArray⟩,.string ⟨(Lib.cut s.data.toList sep.data.toList).2.1.toArray⟩,.bool (Lib.cut s.data.toList sep.data.toList).2.2])∧∃n,w'=w.drewN n:=Any.strings_Cut Tryz.lays145 s sep m w hs hm
def Tryz.lays101_ren:Go.Shelf.Ren:=⟨fun|101=>197|208=>230|206=>233|n=>n,fun|9=>9|4=>4|3=>3|n=>n,fun|n=>n⟩
theorem Tryz.lays101:Go.Proofs.Lays.n101 Tryz.prog Tryz.lays101_ren:={
 mixed:=by kernel_rfl
 f101:=Tryz.func197.trans (congrArg some (by kernel_rfl))
 f206:=Tryz.func233.trans (congrArg some (by kernel_rfl))
 f208:=Tryz.func230.trans (congrArg some (by kernel_rfl))
 t3:=Tryz.underlying3
 a3:=Tryz.isAgg3
 z3:=Tryz.sizeOf3
 v3:=Tryz.zeroValue3
 t4:=Tryz.underlying4
 a4:=Tryz.isAgg4
 z4:=Tryz.sizeOf4
 v4:=Tryz.zeroValue4
 t9:=Tryz.underlying9
 a9:=Tryz.isAgg9
 z9:=Tryz.sizeOf9
 v9:=Tryz.zeroValue9}
open Go.RowKit Go.Lib in
theorem Tryz.strings_TrimPrefix (s p:ByteArray)(w:World):
  Calls Tryz.prog 197 #[.string s,.string p] w fun e w'=>e= .returned (.string ⟨(Lib.trimPrefix s.data.toList p.data.toList).toArray⟩)∧w'=w:=Any.strings_TrimPrefix Tryz.lays101 s p w
def Tryz.lays146_ren:Go.Shelf.Ren:=⟨fun|146=>39|221=>75|268=>109|138=>36|143=>68|195=>66|197=>149|218=>67|219=>106|260=>198|217=>139|225=>140|224=>141|267=>142|266=>184|314=>185|n=>n,fun|9=>9|31=>30|3=>3|4=>4|0=>0|105=>223|21=>21|5=>5|46=>97|119=>253|139=>314|138=>313|146=>273|51=>131|n=>n,fun|1=>2|3=>4|4=>5|n=>n⟩
theorem Tryz.lays146:Go.Proofs.Lays.n146 Tryz.prog Tryz.lays146_ren:={
 mixed:=by kernel_rfl
 f138:=Tryz.func36.trans (congrArg some (by kernel_rfl))
 f143:=Tryz.func68.trans (congrArg some (by kernel_rfl))
 f146:=Tryz.func39.trans (congrArg some (by kernel_rfl))
 f195:=Tryz.func66.trans (congrArg some (by kernel_rfl))
 f197:=Tryz.func149.trans (congrArg some (by kernel_rfl))
 f217:=Tryz.func139.trans (congrArg some (by kernel_rfl))
 f218:=Tryz.func67.trans (congrArg some (by kernel_rfl))
 f219:=Tryz.func106.trans (congrArg some (by kernel_rfl))
 f221:=Tryz.func75.trans (congrArg some (by kernel_rfl))
 f224:=Tryz.func141.trans (congrArg some (by kernel_rfl))
 f225:=Tryz.func140.trans (congrArg some (by kernel_rfl))
 f260:=Tryz.func198.trans (congrArg some (by kernel_rfl))
 f266:=Tryz.func184.trans (congrArg some (by kernel_rfl))
 f267:=Tryz.func142.trans (congrArg some (by kernel_rfl))
 f268:=Tryz.func109.trans (congrArg some (by kernel_rfl))
 f314:=Tryz.func185.trans (congrArg some (by kernel_rfl))
 t0:=Tryz.underlying0
 a0:=Tryz.isAgg0
 z0:=Tryz.sizeOf0
 v0:=Tryz.zeroValue0
 t3:=Tryz.underlying3
 a3:=Tryz.isAgg3
 z3:=Tryz.sizeOf3
 v3:=Tryz.zeroValue3
 t4:=Tryz.underlying4
 a4:=Tryz.isAgg4
 z4:=Tryz.sizeOf4
 v4:=Tryz.zeroValue4
 t5:=Tryz.underlying5
 a5:=Tryz.isAgg5
 z5:=Tryz.sizeOf5
 v5:=Tryz.zeroValue5
 t9:=Tryz.underlying9
 a9:=Tryz.isAgg9
 z9:=Tryz.sizeOf9
 v9:=Tryz.zeroValue9
 t21:=Tryz.underlying21
 a21:=Tryz.isAgg21
 z21:=Tryz.sizeOf21
 v21:=Tryz.zeroValue21
 t31:=Tryz.underlying30
 a31:=Tryz.isAgg30
 z31:=Tryz.sizeOf30
 v31:=Tryz.zeroValue30
 t46:=Tryz.underlying97
 a46:=Tryz.isAgg97
 z46:=Tryz.sizeOf97
 v46:=Tryz.zeroValue97
 t51:=Tryz.underlying131
 a51:=Tryz.isAgg131
 z51:=Tryz.sizeOf131
 v51:=Tryz.zeroValue131
 t105:=Tryz.underlying223
 a105:=Tryz.isAgg223
 z105:=Tryz.sizeOf223
 v105:=Tryz.zeroValue223
 t119:=Tryz.underlying253
 a119:=Tryz.isAgg253
 z119:=Tryz.sizeOf253
 t138:=Tryz.underlying313
 a138:=Tryz.isAgg313
 z138:=Tryz.sizeOf313
 v138:=Tryz.zeroValue313
 t139:=Tryz.underlying314
 a139:=Tryz.isAgg314
 z139:=Tryz.sizeOf314
 v139:=Tryz.zeroValue314
 t146:=Tryz.underlying273
 a146:=Tryz.isAgg273
 z146:=Tryz.sizeOf273
 v146:=Tryz.zeroValue273
 g1:=by kernel_rfl
 g3:=by kernel_rfl
 g4:=by kernel_rfl}
open Go.RowKit Go.Lib in
theorem Tryz.strings_Split (s sep:ByteArray)(m:Int)(w:World)(hs:s.size<4294967281)(hm:w.cell? ⟨2,0,none⟩=some (.int .i64 m))(h1:1≤sep.size):
  Calls Tryz.prog 39 #[.string s,.string sep] w fun e w'=>
   e= .returned (.slice (some ⟨w.heap.size,0,none⟩) (Lib.countB s sep+1) (Lib.countB s sep+1))∧w'=w.alloc (.cells ((Lib.splitB sep 0 (Lib.countB s sep) s).map Value.string).toArray 9):=Any.strings_Split Tryz.lays146 (by kernel_rfl) s sep m w hs hm h1
def Tryz.EY:Go.Shelf.Ren:=⟨fun|16=>73|n=>n,fun|24=>30|9=>9|4=>4|n=>n,fun|n=>n⟩
theorem Tryz.laysNm216:Go.Proofs.Lays2.n16 Tryz.prog Tryz.EY:={
 mixed:=by kernel_rfl
 f16:=Tryz.func73.trans (congrArg some (by kernel_rfl))
 t4:=Tryz.underlying4
 a4:=Tryz.isAgg4
 z4:=Tryz.sizeOf4
 v4:=Tryz.zeroValue4
 t9:=Tryz.underlying9
 a9:=Tryz.isAgg9
 z9:=Tryz.sizeOf9
 v9:=Tryz.zeroValue9
 t24:=Tryz.underlying30
 a24:=Tryz.isAgg30
 z24:=Tryz.sizeOf30
 v24:=Tryz.zeroValue30
 i9:=by kernel_rfl}
open Go.RowKit Go.Lib in
theorem Tryz.slices_Clone_string (b off n c:Nat)(zs:List ByteArray)(w:World)(hz:n≤zs.length)(hbig:n*16≤140737488355328)(hc:∀j,j<zs.length→w.cell? ⟨b,off+j,none⟩=some (.string (zs.getD j ByteArray.empty))):
  Calls Tryz.prog 73 #[.slice (some ⟨b,off,none⟩) n c] w fun e w'=>∃v',e= .returned v'∧w'.ownsRow w.heap.size 9 1 v' n ((zs.take n).map (Value.string))∧v'≠ .slice none 0 0∧Below w.heap.size w w':=Any.slices_Clone_string Tryz.laysNm216 b off n c zs w hz hbig hc
end Go.Proofs
namespace Go.Proofs.YthbdjmopolpjmaaGreatDoor.C
open Go.RowKit Go.Proofs.YthbdjmopolpjmaaGreatDoorW.PrintWords Go.Proofs.YthbdjmopolpjmaaGreatDoorW.PrintLast Go.Proofs.YthbdjmopolpjmaaGreatDoorW.PrintMore Go.Proofs.YthbdjmopolpjmaaGreatDoor.F Go.Proofs.YthbdjmopolpjmaaGreatDoor.M
attribute [local go_sem] max2_int min2_int max_two min_two max_three min_three max_four min_four
theorem U.drew {W:World}{A:Option Addr}{xs:List Int}(h:U W A xs):U W.drew A xs:=h.below (dB (Below.refl _ _))
structure Row (W:World)(g:Nat)(x:List Int):Prop where
 cell:∀j,j<x.length→W.cell? ⟨g,j,none⟩=some (.int .u32 (x.getD j 0))
 ty:∃cells,W.heap[g]?=some (.cells cells 131 (0,0))
theorem Row.E5 {W:World}{base:Nat}{ok:Nat→Prop}{v:Value}{xs:List Int}(h:Kd.R (Kd.int .u32) 131 W base ok v xs)(hp:0<xs.length):∃g cap,v= .slice (some ⟨g,0,none⟩) xs.length cap∧base≤g∧xs.length≤cap∧Row W g xs:=by
 obtain⟨g,cap,rfl,hb,_,hty⟩:=Kd.jf h hp;obtain⟨_,hc,hC⟩:=Kd.dA h;refine⟨g,cap,rfl,hb,hc,⟨fun j hj=>?_,hty⟩⟩;have:=Kd.VR hC (j:Int) (by omega) (by omega);rw[add_plain]at this;simpa[rd]using this
theorem Row.keep {W W1:World}{g:Nat}{x:List Int}(h:Row W g x)(hb:W1.heap[g]?=W.heap[g]?):Row W1 g x:=by
 obtain⟨cells,hc⟩:=h.ty;refine⟨fun j hj=>?_,cells,hb.trans hc⟩;rw[aj (hb.trans hc),←aj hc];exact h.cell j hj
theorem Row.lt {W:World}{g:Nat}{x:List Int}(h:Row W g x):g<W.heap.size:=by
 obtain⟨c,hc⟩:=h.ty;exact dV hc
theorem Row.below {W W1:World}{g:Nat}{x:List Int}(h:Row W g x)(hb:Below W.heap.size W W1):Row W1 g x:=h.keep (hb.block g h.lt)
theorem Row.free {W:World}{g:Nat}{x:List Int}(h:Row W g x)(j:Nat):W.frozen? ⟨g,j,none⟩=false:=by
 obtain⟨c,hc⟩:=h.ty;exact au hc j
theorem Row.mut {W:World}{g:Nat}{z:List Int}(h:Row W g z){m l:Nat}(hl:m+l+1≤z.length):NF 131 .u32 W W g m (l+1) (win z m l):=
 ⟨QP hl,fun j hj=>by rw[aaz hl hj];exact h.cell (m+j) (by omega),fun j=>h.free j,gm.refl _ _,fun _ _=>rfl,h.ty⟩
theorem SS {z r:List Int}{m l j:Nat}(hl:m+l+1≤z.length)(hr:r.length=l+1):(z.take m++r++z.drop (m+l+1)).getD j 0=if j<m then z.getD j 0 else if j<m+(l+1)then r.getD (j- m) 0 else z.getD j 0:=by
 have htl:(z.take m).length=m:=by rw[List.length_take];omega
 simp only[List.getD_eq_getElem?_getD];split
 ·rename_i h;rw[List.append_assoc,List.getElem?_append_left (by omega),List.getElem?_take_of_lt h]
 ·split
  ·rename_i h1 h2;rw[List.append_assoc,List.getElem?_append_right (by omega),List.getElem?_append_left (by omega),htl]
  ·rename_i h1 h2;rw[List.append_assoc,List.getElem?_append_right (by omega),List.getElem?_append_right (by omega),htl,hr,List.getElem?_drop]
   congr 2
   omega
theorem Row.adv {W W1:World}{g:Nat}{z r:List Int}(h:Row W g z){m l:Nat}(hl:m+l+1≤z.length)(hm:NF 131 .u32 W W1 g m (l+1) r):Row W1 g (z.take m++r++z.drop (m+l+1)):=by
 have hrl:=hm.len;have htl:(z.take m).length=m:=by rw[List.length_take];omega
 refine⟨fun j hj=>?_,hm.ty⟩;have htot:(z.take m++r++z.drop (m+l+1)).length=z.length:=by simp;omega
 rw[htot]at hj;rw[SS hl hrl];split
 ·rw[hm.out j (.inl (by omega)),h.cell j hj]
 ·split
  ·have:=hm.cell (j- m) (by omega);rw[show m+(j- m)=j by omega]at this;exact this
  ·rw[hm.out j (.inr (by omega)),h.cell j hj]
theorem Row.set {W:World}{g:Nat}{x:List Int}(h:Row W g x)(i:Nat)(v:Int):Row (W.setCell ⟨g,i,none⟩ (.int .u32 v)) g (x.set i v):=by
 obtain⟨cells,hc⟩:=h.ty;have hs:=aN hc i (.int .u32 v);refine⟨fun j hj=>?_,_,hs⟩;rw[List.length_set]at hj
 by_cases e:i=j
 ·subst e;have hx:=h.cell i hj;rw[aj hc]at hx;have hlt:i<cells.size:=(Array.getElem?_eq_some_iff.1 hx).1;rw[aj hs];simp[hlt,hj]
 ·rw[uw e,h.cell j hj];simp[List.getElem?_set_ne e]
theorem Row.U {W:World}{g:Nat}{x:List Int}(h:Row W g x)(hm:x.length≤9223372036854775807):C.U W (some ⟨g,0,none⟩) x:=by
 intro W' hW;have hg:W'.heap[g]?=W.heap[g]?:=hW g h.ty h.lt;have h':=h.keep hg;refine Kd.xe (d:=(0:Int)) ⟨rfl,hm,fun _=>⟨_,rfl,fun j hj=>?_⟩⟩;rw[add_plain];exact h'.cell j hj
theorem ZY {P:Program}(e:TypeId){z:Value}{s y:Nat}(h:(P.info? e).map (fun i=>(i.zero,i.size,i.bytes))=some (some z,s,y)):∃i,P.info? e=some i:=by
 obtain⟨i,hi,_⟩:=Option.map_eq_some_iff.1 h;exact⟨i,hi⟩
theorem Qg (g n c L:Nat)(a b:Int)(h0:0≤a)(h1:a≤b)(hm:b≤n)(hc:n≤c)(hlt:a<n)(hL:b.toNat- a.toNat=L):
  ∀W:World,(Instr.slice 171 (.slice (some ⟨g,0,none⟩) n c) (some (.int .i64 a)) (some (.int .i64 b)) none).run Tryz.prog W= .ok (.slice (some ⟨g,a.toNat,none⟩) L (c- a.toNat)) W:=by
 intro W;obtain⟨i,hi,_,hsz,_⟩:=info_parts kQ;have hel:Tryz.prog.elem 171=131:=by simp[Program.elem,Tryz.underlying171]
 have hu:Tryz.prog.underlying 171=some (.slice (Tryz.prog.elem 171)):=by rw[hel];exact Tryz.underlying171
 rw[run_slice_lh W 171 (some ⟨g,0,none⟩) n c hu .i64 .i64 a b h0 h1 (by omega),hel];have hne:¬c=a.toNat:=by omega
 subst hL;simp[sizeOf,typeInfo,hi,hsz,sliced,Result.andThen,hne];unfold Addr.add;split<;>simp_all
theorem Yc (W:World)(n:Nat)(hn:0<n)(hm:n≤9223372036854775807):Row (W.alloc (.cells (madeCells #[.int .u32 0] n) 131)) W.heap.size (List.replicate n 0):=by
 have h:Kd.R (Kd.int .u32) 131 (W.alloc (.cells (madeCells #[.int .u32 0] n) 131)) W.heap.size (fun _=>True) (.slice (some ⟨W.heap.size,0,none⟩) n n) (List.replicate n 0):=
  Kd.iR (by have:=Em W W.heap.size 131 .u32 n (Nat.le_refl _) hm;simpa[encs,nums]using this) (fun _ _=>trivial)
 obtain⟨g,cap,e,_,_,hr⟩:=Row.E5 h (by simpa using hn);injection e with e1;injection e1 with e1;injection e1 with e1;subst e1;exact hr
theorem RI (k g h m c0 cv:Nat)(z v':List Int)(l:Nat)(x:Int)(r:List Int)(W:World)(hz:Row W g z)(hv:Row W h v')(hgh:h≠g)(hl:m+l+1≤z.length)(hvl:l≤v'.length)(hvm:v'.length≤9223372036854775807)(hcv:l≤cv)(hk:aW.f k (win z m l) (v'.take l)=some (x,r)):
  Calls Tryz.prog 209 #[.slice (some ⟨g,m,none⟩) (l+1) c0,.slice (some ⟨h,0,none⟩) l cv] W fun e w'=>e= .returned (.int .u32 x)∧Row w' g (z.take m++r++z.drop (m+l+1))∧gm (·=g) W w':=by
 have htl:(v'.take l).length=l:=by rw[List.length_take];omega
 have hV:∀W',gm (·=g) W W'→Kd.C (Kd.int .u32) W' (some ⟨h,0,none⟩) (v'.take l).length (v'.take l):=fun W' hc=>
  (((hv.keep (hc.block h hv.lt hgh)).U hvm).take hvl).now
 have:=Oh k g m c0 (win z m l) (some ⟨h,0,none⟩) cv (v'.take l) x r W (l+1) (hz.mut hl) hV (by omega) hk;rw[htl]at this;exact this.mono fun e w' ⟨he,hm⟩=>⟨he,hz.adv hl hm,hm.qj⟩
theorem QN (n:Nat)(A0:Option Addr)(c0:Nat)(xs r:List Int)(w:World)(hn:xs.length=n)(hU:U w A0 xs)(hc0:n≤c0)(h:H9 xs r):
  Calls Tryz.prog 206 #[.slice A0 n c0] w fun e w'=>e= .returned (.slice A0 r.length c0)∧r.length≤c0∧U w' A0 r∧Below w.heap.size w w':=by
 subst hn;exact Jn A0 c0 xs r w hU hc0 h
theorem X8 (n:Nat)(A0:Option Addr)(c0:Nat)(xs r:List Int)(s:Int)(w:World)(hn:xs.length=n)(hU:U w A0 xs)(hc0:n≤c0)(k:Nat)(h:di.f k xs s=some r):
  Calls Tryz.prog 210 #[.slice A0 n c0,.int .i64 s] w fun e w'=>∃A c,e= .returned (.slice A r.length c)∧r.length≤c∧U w' A r∧Below w.heap.size w w':=by
 subst hn;refine(di.calls k A0 c0 xs s r w hU.now hc0 h).mono fun e w' ⟨v,he,hR,hb⟩=>?_
 obtain⟨A,c,rfl,h1,h2⟩:=U.E5 hR;exact⟨A,c,he,h1,h2,hb⟩
theorem Lj (A:Option Addr)(c:Nat)(a u:List Int)(n:Int)(w:World)(hA:U w A a)(hc:a.length≤c)(k:Nat)(hk:dH.f k a n=some u)(hp:0<u.length):
  Calls Tryz.prog 208 #[.slice A a.length c,.int .i64 n] w fun e w'=>∃g cap,e= .returned (.slice (some ⟨g,0,none⟩) u.length cap)∧w.heap.size≤g∧u.length≤cap∧Row w' g u∧Below w.heap.size w w':=
 (dH.calls k A c a n u w hA.now hc hk).mono fun e w' ⟨v,he,hR,hb⟩=>by
  obtain⟨g,cap,rfl,h1,h2,h3⟩:=Row.E5 hR hp;exact⟨g,cap,he,h1,h2,h3,hb⟩
def Nl (a b:List Int)(w:World)(e:Ending)(w':World):Prop:=∃q r,Wd q∧Wd r∧val 4294967296 a=val 4294967296 q*val 4294967296 b+val 4294967296 r∧val 4294967296 r<val 4294967296 b∧Hl q r w e w'
theorem Tm {a b V Q R s:Int}(hs:1≤s)(h:a*s=Q*V+R)(hV:V=b*s)(hR:R<V)(h0:0≤R):∃R',R=R'*s∧a=Q*b+R'∧R'<b∧0≤R':=by
 refine⟨a- Q*b,?_,by omega,?_,?_⟩
 ·rw[Int.sub_mul,h,hV];grind
 ·have e:(a- Q*b)*s=R:=by rw[Int.sub_mul,h,hV];grind
  by_cases hlt:a- Q*b<b
  ·exact hlt
  ·exfalso
   have:=Int.mul_le_mul_of_nonneg_right (show b≤a- Q*b by omega) (show 0≤s by omega);omega
 ·have e:(a- Q*b)*s=R:=by rw[Int.sub_mul,h,hV];grind
  by_cases hlt:0≤a- Q*b
  ·exact hlt
  ·exfalso
   have:=Int.mul_le_mul_of_nonneg_right (show a- Q*b≤-1 by omega) (show 0≤s by omega);omega
theorem Oa (A0:Option Addr)(c0:Nat)(a:List Int)(A1:Option Addr)(c1:Nat)(b:List Int)(w:World)(hA:U w A0 a)(ha:a.length≤c0)(hB:U w A1 b)(hb:b.length≤c1)(wa:Wd a)(wb:Wd b)(hge:val 4294967296 b≤val 4294967296 a)(hb1:1<b.length):
  Calls Tryz.prog 159 #[.slice A0 a.length c0,.slice A1 b.length c1] w (Nl a b w):=by
 obtain⟨rc,hr,_,_,hev⟩:=nI wa.1 wb.1 wa.2.1 wb.2.1 (by have:=wa.2.2;omega) (by have:=wb.2.2;omega);obtain⟨k,hk⟩:=hev.rounds;have hneg:decide (rc<0)=false:=decide_eq_false (fun h=>by have:=hr.1.1 h;omega);have hbn:b≠[]:=by intro e;subst e;simp at hb1
 have aca:=gG wb.1 ((b.length:Int)- 1) (by omega);have bnz:rd b ((b.length:Int)- 1)≠0:=by rw[aan hbn];exact wb.2.1 hbn
 obtain⟨s,hs,hlz,htop⟩:=PD (t:=rd b ((b.length:Int)- 1)) (by omega) (by omega);obtain⟨u,heu,hud,YN,huv⟩:=Ee (a:=a) (n:=(s:Int)) (by omega) (by omega) wa.1 (by have:=wa.2.2;omega);obtain⟨v',hev',hvd,hvl,hvv⟩:=Ee (a:=b) (n:=(s:Int)) (by omega) (by omega) wb.1 (by have:=wb.2.2;omega);rw[Int.toNat_natCast]at huv hvv;obtain⟨k2,hk2⟩:=heu.rounds;obtain⟨k3,hk3⟩:=hev'.rounds;obtain⟨v1,v2,v3,v4,hlen,hinv⟩:=Rq wa.1 wb.1 wa.2.1 wb.2.1 hbn hge hs htop hud YN huv hvd hvl hvv;have HA:=zM hA;have HB:=zM hB;have Hwa:=zM wa;have HL:=zM (zA ha hb);have HCL:=zM (bY.calls k A0 c0 a A1 c1 b rc w hA.now ha hB.now hb hk);have hl1:((b.length:Int)==1)=false:=by rw[beq_eq_false_iff_ne];omega
 have hw0:wrap64 ((b.length:Int)- 1)=(b.length:Int)- 1:=fD (by omega) (by have:=wb.2.2;omega);obtain⟨tp,htp⟩:∃t:Int,(b.length:Int)- 1=t:=⟨_,rfl⟩;have hw1:wrap64 ((b.length:Int)- 1)=tp:=hw0.trans htp;have hw2:IntKind.i64.wrap ((b.length:Int)- 1)=tp:=(dL _).trans hw1;rw[htp]at aca bnz hlz htop;have p1:0≤tp:=by omega
 have q1:tp<(b.length:Int):=by omega
 have HX:=zM (zA aca (zA bnz (zA hlz (zA htp hs))));have Hk2:=zM hk2;have Hk3:=zM hk3;have HV:=zM (zA v1 (zA v2 (zA v3 v4)));have HI:=zM hinv;have HU:=zM (zA YN (zA hvl (zA hlen hb1)));clear hA hB ha hb wa wb hge hb1 hr hev hk hbn aca bnz hlz htop heu hud YN huv hev' hvd hvl hvv hk2 hk3 v1 v2 v3 v4 hlen hinv hw0 htp;go_enter Tryz.func159,Tryz.ntmps159;go_wp2_with fail;refine HCL.out.mono ?_;rintro e w1 ⟨rfl,hd⟩;have HD:=zM hd;have HA1:=zM (HA.out.drawn hd);obtain⟨ad,e2,hx2⟩:=Kd.dM (HB.out.drawn hd).now tp p1 q1;cases e2;have HB1:=zM (HB.out.drawn hd);clear hd HCL HB;go_wp2_with fail;refine(Tryz.bits_LeadingZeros32 (rd b tp) w1 HX.out.1.1 (by have:=HX.out.1.2;omega)).mono ?_;rintro e w1x ⟨rfl,rfl⟩;rw[HX.out.2.2.1];go_wp2_with fail;go_cut [9,10] (fun v9 v10 wc=>∃g cu h cv,v9= .slice (some ⟨g,0,none⟩) u.length cu∧v10= .slice (some ⟨h,0,none⟩) b.length cv∧Aside0 (w.heap.size≤g∧u.length≤cu∧Row wc g u∧b.length≤cv∧Row wc h v'∧g<h∧Below w.heap.size w wc))
 case first=>
  obtain⟨Xo,oL,_,wO,_⟩:=info_parts kQ
  go_region_with ((first
   |(go_at_call_of 208 (Value.slice A0 a.length c0);refine(Lj A0 c0 a u s _ (by first|exact HA1.out|exact HA1.out.drew) HL.out.1 k2 Hk2.out (by have:=HU.out.1;omega)).mono ?_;rintro e w2 ⟨g,cu,rfl,hg,hcu,hrow,hbel⟩;have HF:=zM (zA hg (zA hcu (zA hrow hbel)));clear hg hcu hrow hbel;have HB2:=zM ((HB1.out.drew).below HF.out.2.2.2))
   |(go_at_call_of 208 (Value.slice (some ad) b.length c1);refine(Lj (some ad) c1 b v' s _ (by first|exact HB2.out|exact HB2.out.drew) HL.out.2 k3 Hk3.out (by have:=HU.out.2.1;omega)).mono ?_;rintro e w3 ⟨h,cv,rfl,hh,hcv,hrow3,abb⟩;have hct:=xy (P:=Tryz.prog) 171 131 .i64 Tryz.underlying171 oL (some ⟨h,0,none⟩) v'.length cv (b.length:Int) (by omega) (by have:=HU.out.2.1;omega) hcv;simp only[Int.toNat_natCast]at hct;have HG:=zM (zA hh (zA hcv (zA hrow3 abb)));clear hh hcv hrow3 abb)))
  go_wp2_with fail;go_meet;have hb1:Below w.heap.size w w2:=ah (dB HD.out.below) (by have:=HD.out.below.size;simpa using this) HF.out.2.2.2;have hb2:Below w.heap.size w w3:=ah hb1 hb1.size HG.out.2.2.2;have h1:=HF.out.2.2.1.lt;have h2:=HG.out.1;have h3:=HF.out.1;have h4:=HD.out.below.size;have h5:=HU.out.2.1;have h6:=HG.out.2.1;exact⟨g,cu,h,cv,rfl,rfl,⟨by simp at h3;omega,HF.out.2.1,HF.out.2.2.1.below HG.out.2.2.2,by omega,HG.out.2.2.1,by omega,hb2⟩⟩
 case rest=>
  obtain⟨g,cu,h,cv,rfl,rfl,HC⟩:=hcut;obtain⟨n,hn⟩:∃n:Nat,a.length+1- b.length=n:=⟨_,rfl⟩;have hal:=Hwa.out.2.2;have hu1:=HU.out.1;have hu3:=HU.out.2.2.1;have hw3:wrap64 ((u.length:Int)- (b.length:Int))=(n:Int):=by rw[fD (by omega) (by omega)];omega
  have hw4:wrap64 ((n:Int)- 1)=(n:Int)- 1:=fD (by omega) (by omega);have hmk:=pX (P:=Tryz.prog) 171 131 .u32 4 Tryz.underlying171 kQ (by decide) n (by omega);have ZF:0<n:=by omega
  have HN:=zM (zA hn (zA ZF (zA hal (zA hu1 hu3))));have HQ:=zM (Yc wc n ZF (by omega));rw[hn]at HI;clear hn hal hu1 hu3 ZF;go_wp2_with fail;go_loopw [12] (fun v12 W=>∃(i:Int) (z q:List Int),v12= .int .i64 i∧Aside0 (-1≤i∧tZ (val 4294967296 a*2^s) (v'.take b.length) n (i+1).toNat z q∧Row W g z∧Row W h v'∧Row W wc.heap.size q∧Below w.heap.size w W)) (fun v12 _=>(intOf v12+1).toNat)
  case atStart=>exact⟨(n:Int)- 1,u,List.replicate n 0,(by rw[hw4]),⟨by omega,(by rw[show((n:Int)- 1+1).toNat=n by omega];exact HI.out),HC.out.2.2.1.below (ag (Below.refl _ _) _),HC.out.2.2.2.2.1.below (ag (Below.refl _ _) _),HQ.out,ah HC.out.2.2.2.2.2.2 HC.out.2.2.2.2.2.2.size (ag (Below.refl _ _) _)⟩⟩
  case round=>
   obtain⟨i,z,q,rfl,HR⟩:=hrel;clear HI HQ hmk hw3 hw4
   by_cases hi0:0≤i
   case neg=>
    have hi:=zF hi0;have hD:=HR.out.2.1;rw[show(i+1).toNat=0 by omega]at hD;clear hi0;have hal:=HN.out.2.2.1;have hzl:=hD.zl;have Wn:=hD.ql;rw[HV.out.1]at hzl;have hu3:=HN.out.2.2.2.2;have hn1:=HN.out.1;have hs1:=(lH s hs).1;obtain⟨e1,e2⟩:=Zm hD;rw[HV.out.1]at e1 e2;have e0:=dW (B:=4294967296) (by omega) (fK hD.zd b.length);obtain⟨R',r1,r2,r3,r4⟩:=Tm hs1 e1 HV.out.2.2.1 e2 e0;have hzt:(z.take b.length).length=b.length:=by rw[List.length_take];omega
    obtain⟨rr,her,hrd,hrl,RS⟩:=Mc (a:=z.take b.length) (n:=(s:Int)) (by omega) (by omega) (fK hD.zd b.length) (by rw[hzt];have:=HU.out.2.2.1;omega) R' (by rw[Int.toNat_natCast];exact r1);obtain⟨kr,hkr⟩:=her.rounds;rw[hzt]at hrl;obtain⟨tq,htq,wtq,vtq,ltq⟩:=zk (xs:=q) hD.qd (by omega);obtain⟨tr,htr,wtr,vtr,ltr⟩:=zk (xs:=rr) hrd (by omega);have HT:=zM (zA htq htr);have YY:=zM (show Wd tq∧Wd tr∧val 4294967296 a=val 4294967296 tq*val 4294967296 b+val 4294967296 tr∧val 4294967296 tr<val 4294967296 b from⟨wtq,wtr,by rw[vtq,vtr,RS];exact r2,by rw[vtr,RS];exact r3⟩);have Hkr:=zM hkr;have HZ:=zM (zA hzt (zA hzl (zA Wn (zA hrl hn1))));have HUq:=zM (HR.out.2.2.2.2.1.U (by omega));have HUz:=zM ((HR.out.2.2.1.U (by omega)).take (m:=b.length) (by omega));clear hD hal hzl Wn hu3 hn1 hs1 e1 e2 e0 r1 r2 r3 r4 hzt her hrd hrl RS hkr htq wtq vtq ltq htr wtr vtr ltr;go_wp2_with fail;have hct:=xy (P:=Tryz.prog) 171 131 .i64 Tryz.underlying171 (Classical.choose_spec (ZY 131 kQ)) (some ⟨g,0,none⟩) u.length cu (b.length:Int) (by omega) (by have:=HU.out.1;have:=HU.out.2.2.1;omega) HC.out.2.1;simp only[Int.toNat_natCast]at hct;have HW0:=zM (Below.refl wr.heap.size wr)
    go_region_with ((first
     |(go_at_call_of 206 (Value.slice (some ⟨wc.heap.size,0,none⟩) n n);refine(QN n (some ⟨wc.heap.size,0,none⟩) n q tq _ HZ.out.2.2.1 (by first|exact HUq.out|exact HUq.out.drew) (Nat.le_refl _) HT.out.1).mono ?_;rintro e w2 ⟨rfl,ha1,ha2,ha3⟩;have HF:=zM (zA ha1 (zA ha2 ha3));clear ha1 ha2 ha3;have ake:=zM (HUz.out.drew.below HF.out.2.2))
     |(go_at_call 210;refine(X8 b.length (some ⟨g,0,none⟩) cu (z.take b.length) rr s _ HZ.out.1 ake.out (by have:=HU.out.1;have:=HU.out.2.2.1;have:=HC.out.2.1;omega) kr Hkr.out).mono ?_;rintro e w3 ⟨A3,c3,rfl,hb1,hb2,hb3⟩;have HG:=zM (zA hb1 (zA hb2 hb3));clear hb1 hb2 hb3)
     |(go_at_call_of 206 (Value.slice A3 rr.length c3);refine(QN rr.length A3 c3 rr tr _ rfl HG.out.2.1 HG.out.1 HT.out.2).mono ?_;rintro e w4 ⟨rfl,hc1,hc2,hc3⟩;have HH:=zM (zA hc1 (zA hc2 hc3));clear hc1 hc2 hc3)))
    go_wp2_with fail;go_simp;go_ret2;have g1:=HF.out;have g2:=HG.out;have g3:=HH.out;have k1:Below wr.heap.size wr w2:=ah (dB (Below.refl _ _)) (by simp) g1.2.2;have k2:Below w2.heap.size w2 w4:=ah g2.2.2 g2.2.2.size g3.2.2;have kw:=HR.out.2.2.2.2.2;exact⟨tq,tr,YY.out.1,YY.out.2.1,YY.out.2.2.1,YY.out.2.2.2,_,_,_,_,rfl,g1.1,g3.1,g1.2.1.below k2,g3.2.1,ah kw kw.size (ah k1 k1.size k2)⟩
   case pos=>
    have hi:=zT hi0;have hD:=HR.out.2.1;rw[show(i+1).toNat=i.toNat+1 by omega]at hD;have hal:=HN.out.2.2.1;have hu1:=HU.out.1;have hu2:=HU.out.2.1;have hu3:=HU.out.2.2.1;have hn1:=HN.out.1;have hmn:=hD.hm;have hzl:=hD.zl;have Wn:=hD.ql;have hwin:=hD.window HV.out.2.1;rw[HV.out.1]at hzl hwin;obtain⟨x,r,hgk,hL⟩:=KJ (u:=win z i.toNat b.length) (v:=v'.take b.length) hwin.1 HV.out.2.1 (by rw[QP (by omega),HV.out.1]) (by rw[HV.out.1];omega) (by rw[HV.out.1];omega) (by rw[HV.out.1];exact HV.out.2.2.2) hwin.2.1;obtain⟨kg,hkg⟩:=hgk.rounds;have hL':M.Left (val 4294967296 (win z i.toNat (v'.take b.length).length)) (val 4294967296 (v'.take b.length)) (v'.take b.length).length x r:=by rw[HV.out.1]at hL⊢;exact hL
    have HS:=zM (hD.step HV.out.2.1 hL');rw[HV.out.1]at HS;have e1:wrap64 (i+(b.length:Int))=i+b.length:=fD (by omega) (by omega);have e2:wrap64 (i+(b.length:Int)+1)=i+b.length+1:=fD (by omega) (by omega);have e3:wrap64 (i- 1)=i- 1:=fD (by omega) (by omega);have hct:=Qg g u.length cu (b.length+1) i (i+b.length+1) (by omega) (by omega) (by omega) (by have:=HC.out.2.1;omega) (by omega) (by omega);have hgh:h≠g:=by have:=HC.out.2.2.2.2.2.1;omega
    have HGR:=zM (RI kg g h i.toNat (cu- i.toNat) cv z v' b.length x r wr HR.out.2.2.1 HR.out.2.2.2.1 hgh (by omega) (by omega) (by omega) (by have:=HC.out.2.2.2.1;omega) hkg);have HZ:=zM (zA hn1 (zA hmn (zA hzl (zA Wn (zA hgh hi0)))));have qm:i<(n:Int):=by omega
    clear hD hal hu1 hu2 hu3 hn1 hmn hzl Wn hwin hgk hkg hL hL' hgh;go_wp2_with fail;refine HGR.out.mono ?_;rintro e wg ⟨rfl,hr1,hc1⟩;have hgq:¬wc.heap.size=g:=by have:=HC.out.2.2.1.lt;omega
    have hrq:Row wg wc.heap.size q:=HR.out.2.2.2.2.1.keep (hc1.block _ HR.out.2.2.2.2.1.lt hgq);have RS:Row wg h v':=HR.out.2.2.2.1.keep (hc1.block _ HR.out.2.2.2.1.lt HZ.out.2.2.2.2.1);have hxq:=hrq.cell i.toNat (by have:=HZ.out.2.2.2.1;omega);have hfq:=hrq.free i.toNat;have hbw:Below w.heap.size w wg:=(gm.trans (S:=fun k=>k=g) (gm.of_below HR.out.2.2.2.2.2) hc1 (fun _ _ h=>h)).below (fun k hk=>by subst hk;exact HC.out.1);have HG1:=zM (zA hr1 (zA RS (zA hrq (zA hbw hgq))));clear hr1 hc1 hrq RS hbw hgq HGR hct;replace hi0:=eq_true hi0;replace qm:=eq_true qm;go_wp2_with fail;go_roundw
    case measure=>have:=of_eq_true hi0;simp[intOf,e3];omega
    case rel=>
     have hi1:=of_eq_true hi0;have hsz:w.heap.size≤wc.heap.size:=HC.out.2.2.2.2.2.2.size;refine⟨i- 1,_,q.set i.toNat x,(by rw[e3]),⟨by omega,by rw[show(i- 1+1).toNat=i.toNat by omega];exact HS.out,HG1.out.1.keep (Below.heap_setCell _ _ _ _ (fun e=>HG1.out.2.2.2.2 e.symm)),HG1.out.2.1.keep (Below.heap_setCell _ _ _ _ (fun e=>?_)),HG1.out.2.2.1.set _ _,HG1.out.2.2.2.1.setCell (by simpa using hsz) _⟩⟩;have:=HC.out.2.2.2.2.1.lt;have e':h=wc.heap.size:=e;omega
theorem EK:Wd []:=⟨nJ _,MO,by simp⟩
theorem N9 (A0:Option Addr)(c0:Nat)(a:List Int)(A1:Option Addr)(c1:Nat)(b:List Int)(w:World)(hA:U w A0 a)(ha:a.length≤c0)(hB:U w A1 b)(hb:b.length≤c1)(wa:Wd a)(wb:Wd b)(hbn:b≠[]):
  Calls Tryz.prog 159 #[.slice A0 a.length c0,.slice A1 b.length c1] w (Nl a b w):=by
 by_cases hlt:val 4294967296 a<val 4294967296 b
 ·exact(J4 A0 c0 a A1 c1 b w hA ha hB hb wa wb hlt).mono fun e w' h=>⟨[],a,EK,wa,by simp[val],hlt,h⟩
 ·by_cases h1:b.length=1
  ·obtain⟨q,r,h1,h2,h3,h4,hc⟩:=Iw A0 c0 a A1 c1 b w hA ha hB hb wa wb (by omega) h1;exact hc.mono fun e w' h=>⟨q,r,h1,h2,h3,h4,h⟩
  ·have:=List.length_pos_iff.2 hbn;exact Oa A0 c0 a A1 c1 b w hA ha hB hb wa wb (by omega) (by omega)
theorem G9 {x:Int}{xs:List Int}(h:Trim (x::xs)):Trim xs:=by
 intro hn;have:=h (by simp)
 rwa [List.getLast_cons hn]at this
theorem val_inj {B:Int}(hB:0<B):∀{xs ys:List Int},gV B xs→Trim xs→gV B ys→Trim ys→val B xs=val B ys→xs=ys
 | [],ys,_,_,hy,ty,h=>((tC hB hy ty).1 (by simpa[val]using h.symm)).symm
 |x::xs,[],hx,tx,_,_,h=>(tC hB hx tx).1 (by simpa[val]using h)
 |x::xs,y::ys,hx,tx,hy,ty,h=>by
  have h1:=jX.1 hx;have h2:=jX.1 hy;simp only[val]at h;have e1:=rX (show x+B*val B xs=val B xs*B+x by rw[Int.mul_comm];omega) h1.1.1 h1.1.2;have e2:=rX (show x+B*val B xs=val B ys*B+y by rw[Int.mul_comm (val B ys)];omega) h2.1.1 h2.1.2;rw[val_inj hB h1.2 (G9 tx) h2.2 (G9 ty) (by omega),show x=y by omega]
theorem Wd.inj {xs ys:List Int}(hx:Wd xs)(hy:Wd ys)(h:val 4294967296 xs=val 4294967296 ys):xs=ys:=val_inj (by omega) hx.1 hx.2.1 hy.1 hy.2.1 h
theorem Wd.pos {xs:List Int}(hx:Wd xs)(hn:xs≠[]):0<val 4294967296 xs:=vV (by omega) hx.1 hx.2.1 hn
theorem Wd.qN {xs:List Int}(hx:Wd xs):0≤val 4294967296 xs:=dW (by omega) hx.1
theorem Wd.zero {xs:List Int}(hx:Wd xs):val 4294967296 xs=0↔xs=[]:=tC (by omega) hx.1 hx.2.1
theorem Es (n g:Nat)(neg:Bool)(A0:Option Addr)(c0:Nat)(xs:List Int)(w:World)(v0 v1:Value)(hn:xs.length=n)(hb:w.heap[g]?=some (.cells #[v0,v1] 173 (0,0)))(hU:U w A0 xs)(hc0:n≤c0)(hw:Wd xs):
  Calls Tryz.prog 160 #[.pointer (some ⟨g,0,none⟩),.bool neg,.slice A0 n c0] w fun e w'=>e= .returned (.pointer (some ⟨g,0,none⟩))∧iy w' g (neg&& !xs.isEmpty) xs∧gm (·=g) w w':=by
 subst hn;obtain⟨r,hr,hv,hc⟩:=Dh g neg A0 c0 xs w v0 v1 hb hU hc0 hw.1 hw.2.2;obtain rfl:=hr.inj hw hv;exact hc
theorem yD (n:Nat)(A:Option Addr)(c:Nat)(xs:List Int)(w:World)(hn:xs.length=n)(hU:U w A xs)(hw:Wd xs):
  Calls Tryz.prog 161 #[.slice A n c] w fun e w'=>∃A' c',e= .returned (.slice A' n c')∧n≤c'∧U w' A' xs∧Below w.heap.size w w':=by
 subst hn;exact F5 A c xs w hU.now (by have:=hw.2.2;omega)
theorem gm.dU {S:Nat→Prop}{w w1 w2:World}(h:Below w.heap.size w w1)(k:gm S w1 w2):gm S w w2:=(gm.of_below (S:=S) h).trans k (fun _ _ h=>h)
theorem PQ {w w2:World}(h:Below w.drew.heap.size w.drew w2):Below w.heap.size w w2:=⟨h.os,h.tape,h.output,h.size,h.block⟩
theorem XH (gz gx ox:Nat)(neg:Bool)(xs:List Int)(w:World)(v0 v1:Value)(hz:w.heap[gz]?=some (.cells #[v0,v1] 173 (0,0)))(hx:rH w gx ox neg xs)(hw:Wd xs):
  Calls Tryz.prog 156 #[.pointer (some ⟨gz,0,none⟩),.pointer (some ⟨gx,ox,none⟩)] w fun e w'=>e= .returned (.pointer (some ⟨gz,0,none⟩))∧iy w' gz (!neg&& !xs.isEmpty) xs∧gm (·=gz) w w':=by
 obtain⟨A,c,hx0,hx1,hc,hU⟩:=hx;have HU:=zM hU;have HZ:=zM hz;have HW:=zM hw;have HC:=zM hc;have HX:=zM (zA hx0 hx1);clear hU hz hw hc;go_enter Tryz.func156,Tryz.ntmps156;go_wp2_with fail
 go_region_with ((first
  |(go_at_call 161;refine(yD xs.length A c xs _ rfl (by first|exact HU.out|exact HU.out.drew) HW.out).mono ?_;rintro e w2 ⟨A2,c2,rfl,h1,h2,h3⟩;have HF:=zM (zA h1 (zA h2 h3));have hy0:=aI h3 HX.out.1;have hy1:=aI h3 HX.out.2;clear h1 h2 h3)
  |(go_at_call 160;refine(Es xs.length gz (!neg) A2 c2 xs _ v0 v1 rfl (by have h:=(HF.out.2.2).block gz (by have:=dV HZ.out;simpa using this);exact h.trans HZ.out) HF.out.2.1 HF.out.1 HW.out).mono ?_;rintro e w3 ⟨rfl,h4,h5⟩;have HG:=zM (zA h4 h5);clear h4 h5)))
 all_goals(go_wp2_with fail;go_ret;exact⟨rfl,HG.out.1,gm.dU (PQ HF.out.2.2) HG.out.2⟩)
theorem Dz (gz gx ox:Nat)(neg:Bool)(xs:List Int)(w:World)(v0 v1:Value)(hz:w.heap[gz]?=some (.cells #[v0,v1] 173 (0,0)))(hx:rH w gx ox neg xs)(hw:Wd xs):
  Calls Tryz.prog 115 #[.pointer (some ⟨gz,0,none⟩),.pointer (some ⟨gx,ox,none⟩)] w fun e w'=>e= .returned (.pointer (some ⟨gz,0,none⟩))∧iy w' gz false xs∧gm (·=gz) w w':=by
 obtain⟨A,c,hx0,hx1,hc,hU⟩:=hx;have HU:=zM hU;have HZ:=zM hz;have HW:=zM hw;have HC:=zM hc;clear hU hz hw hc hx0;go_enter Tryz.func115,Tryz.ntmps115;go_wp2_with fail;refine(yD xs.length A c xs _ rfl (by first|exact HU.out|exact HU.out.drew) HW.out).mono ?_;rintro e w2 ⟨A2,c2,rfl,h1,h2,h3⟩;have HF:=zM (zA h1 (zA h2 h3));clear h1 h2 h3;go_wp2_with fail;refine(Es xs.length gz false A2 c2 xs _ v0 v1 rfl ((HF.out.2.2.block gz (dV HZ.out)).trans HZ.out) HF.out.2.1 HF.out.1 HW.out).mono ?_;rintro e w3 ⟨rfl,h4,h5⟩;have HG:=zM (zA h4 h5);clear h4 h5;go_wp2_with fail;go_ret;exact⟨rfl,by simpa using HG.out.1,gm.dU HF.out.2.2 HG.out.2⟩
def wC (neg:Bool)(xs:List Int):Int:=if xs=[]then 0 else if neg then -1 else 1
theorem jL (g o:Nat)(neg:Bool)(xs:List Int)(w:World)(hx:rH w g o neg xs):
  Calls Tryz.prog 113 #[.pointer (some ⟨g,o,none⟩)] w fun e w'=>e= .returned (.int .i64 (wC neg xs))∧w=w':=by
 obtain⟨A,c,hx0,hx1,hc,hU⟩:=hx;clear hc hU
 by_cases hn:xs=[]
 ·subst hn;have h0:(((0:Nat):Int)==0)=true:=rfl;simp only[List.length_nil]at hx1;go_enter Tryz.func113,Tryz.ntmps113;go_wp2;go_ret;exact⟨rfl,rfl⟩
 ·have hl:((xs.length:Int)==0)=false:=by rw[beq_eq_false_iff_ne];have:=List.length_pos_iff.2 hn;omega
  have hl2:(xs.length==0)=false:=by rw[beq_eq_false_iff_ne];have:=List.length_pos_iff.2 hn;omega
  have HN:=zM hn;cases neg
  ·have hs:wC false xs=1:=by simp[wC,hn]
   have HS:=zM hs;clear hs hn;go_enter Tryz.func113,Tryz.ntmps113;go_wp2;go_ret;exact⟨by rw[HS.out];rfl,rfl⟩
  ·have hs:wC true xs= -1:=by simp[wC,hn]
   have HS:=zM hs;clear hs hn;go_enter Tryz.func113,Tryz.ntmps113;go_wp2;go_ret;exact⟨by rw[HS.out];rfl,rfl⟩
theorem NZ (A0:Option Addr)(c0:Nat)(a:List Int)(A1:Option Addr)(c1:Nat)(b:List Int)(wa:Wd a)(wb:Wd b)(ha:a.length≤c0)(hb:b.length≤c1):
  ∃r,Sg r (val 4294967296 a) (val 4294967296 b)∧-4611686018427387904≤r∧r≤4611686018427387904∧∀w,U w A0 a→U w A1 b→Calls Tryz.prog 162 #[.slice A0 a.length c0,.slice A1 b.length c1] w fun e w'=>e= .returned (.int .i64 r)∧aJ w w':=by
 obtain⟨rc,hr,h1,h2,hev⟩:=nI wa.1 wb.1 wa.2.1 wb.2.1 (by have:=wa.2.2;omega) (by have:=wb.2.2;omega);obtain⟨k,hk⟩:=hev.rounds;exact⟨rc,hr,h1,h2,fun w hA hB=>bY.calls k A0 c0 a A1 c1 b rc w hA.now ha hB.now hb hk⟩
def Ir (a b:Int):Int:=if a<b then -1 else if a=b then 0 else 1
def Cl (k r:Int):Prop:=(k<0∧r= -1)∨(k=0∧r=0)∨(0<k∧r=1)
theorem Qc {a b k:Int}(h1:k<0↔a<b)(h2:k=0↔a=b):Cl k (Ir a b):=by
 unfold Ir Cl
 by_cases ha:a<b
 ·left;exact⟨h1.2 ha,by rw[if_pos ha]⟩
 ·by_cases hb:a=b
  ·right;left;exact⟨h2.2 hb,by rw[if_neg ha,if_pos hb]⟩
  ·right;right;have n1:¬k<0:=fun h=>ha (h1.1 h)
   have n2:¬k=0:=fun h=>hb (h2.1 h)
   exact⟨by omega,by rw[if_neg ha,if_neg hb]⟩
theorem Di {z z':Int}(h:z=z'):Ending.returned (.int .i64 z)= .returned (.int .i64 z'):=by rw[h]
theorem drawn_drew {w w2:World}(h:aJ w.drew w2):aJ w w2:=by
 obtain⟨n,rfl⟩:=h;exact⟨⟨1+n,World.drewN_drewN w 1 n⟩⟩
theorem JV (gx ox gy oy:Nat)(nx ny:Bool)(xs ys:List Int)(w:World)(hx:rH w gx ox nx xs)(hy:rH w gy oy ny ys)(wx:Wd xs)(wy:Wd ys)(zx:nx=true→xs≠[])(zy:ny=true→ys≠[]):
  Calls Tryz.prog 116 #[.pointer (some ⟨gx,ox,none⟩),.pointer (some ⟨gy,oy,none⟩)] w fun e w'=>e= .returned (.int .i64 (Ir (num nx xs) (num ny ys)))∧aJ w w':=by
 have HX:=zM hx;have HY:=zM hy;obtain⟨A,c,hx0,hx1,hc,hU⟩:=hx;obtain⟨A2,c2,hy0,hy1,hc2,KN⟩:=hy;obtain⟨rc,hr,r1,r2,hcall⟩:=NZ A c xs A2 c2 ys wx wy hc hc2;have HU:=zM (zA hU KN);have HC:=zM hcall;have px:=wx.qN;have py:=wy.qN;have pz1:=fun h=>wx.pos (zx h)
 have pz2:=fun h=>wy.pos (zy h)
 cases nx<;>cases ny
 case false.false=>
  have HE:=zM (Qc (a:=num false xs) (b:=num false ys) (k:=rc) (by simpa[num]using hr.1) (by simpa[num]using hr.2));clear hcall hU KN hc hc2 wx wy zx zy hr px py pz1 pz2;go_enter Tryz.func116,Tryz.ntmps116;go_wp2_with fail;go_region_with ((go_at_call 162;refine(HC.out _ (by first|exact HU.out.1|exact HU.out.1.drew) (by first|exact HU.out.2|exact HU.out.2.drew)).mono ?_;rintro e w2 ⟨rfl,h1⟩;have HF:=zM h1;have hx0':=aI h1.below hx0;have hy0':=aI h1.below hy0;clear h1))
  all_goals(go_wp2_with fail;go_quiet (fail);go_wp2)
  all_goals(go_ret;refine⟨Di ?_,aJ.step (drawn_drew HF.out) _⟩)
  all_goals(rcases HE.out with h|h|h<;>(first|omega|(split at * <;>omega)))
 case true.true=>
  have hn:wrap64 (-rc)= -rc:=fD (by omega) (by omega);have HE:=zM (Qc (a:=num true xs) (b:=num true ys) (k:= -rc) (by have:=hr.1;have:=hr.2;simp[num];omega) (by have:=hr.2;simp[num];omega));clear hcall hU KN hc hc2 wx wy zx zy hr px py pz1 pz2;go_enter Tryz.func116,Tryz.ntmps116;go_wp2_with fail;go_region_with ((go_at_call 162;refine(HC.out _ (by first|exact HU.out.1|exact HU.out.1.drew) (by first|exact HU.out.2|exact HU.out.2.drew)).mono ?_;rintro e w2 ⟨rfl,h1⟩;have HF:=zM h1;have hx0':=aI h1.below hx0;have hy0':=aI h1.below hy0;clear h1))
  all_goals(go_wp2_with fail;go_quiet (fail);go_wp2)
  all_goals(go_ret;refine⟨Di ?_,aJ.step (drawn_drew HF.out) _⟩)
  all_goals(rcases HE.out with h|h|h<;>(first|omega|(split at * <;>omega)))
 case false.true=>
  obtain⟨kk,hkk⟩:∃kk:Int,wC false xs- wC true ys=kk:=⟨_,rfl⟩;have hbd: -2≤kk∧kk≤2:=by rw[←hkk];unfold wC;repeat' split<;>omega
  have hw:wrap64 (wC false xs- wC true ys)=kk:=by rw[hkk];exact fD (by omega) (by omega)
  have HE:=zM (Qc (a:=num false xs) (b:=num true ys) (k:=kk) (by have h2:=pz2 rfl;have h3:=zy rfl;rw[←hkk];simp only[wC,if_neg h3,num];simp;split<;>omega) (by have h2:=pz2 rfl;have h3:=zy rfl;rw[←hkk];simp only[wC,if_neg h3,num];simp;split<;>omega));clear hcall hU KN hc hc2 wx wy zx zy hr px py pz1 pz2 hkk hbd;go_enter Tryz.func116,Tryz.ntmps116;go_wp2_with fail;go_region_with ((go_at_call 162;refine(HC.out _ (by first|exact HU.out.1|exact HU.out.1.drew) (by first|exact HU.out.2|exact HU.out.2.drew)).mono ?_;rintro e w2 ⟨rfl,h1⟩;have HF:=zM h1;have hx0':=aI h1.below hx0;have hy0':=aI h1.below hy0;clear h1))
  all_goals(go_wp2_with fail;go_quiet (fail);go_wp2_with fail)
  all_goals(refine(jL gx ox false xs _ ((HX.out.below (drawn_drew HF.out).below).below (ai (Below.refl _ _) _))).mono ?_;rintro e w' ⟨rfl,rfl⟩;go_wp2_with fail;refine(jL gy oy true ys _ ((HY.out.below (drawn_drew HF.out).below).below (ai (Below.refl _ _) _))).mono ?_;rintro e w' ⟨rfl,rfl⟩;go_wp2)
  all_goals(go_ret;refine⟨Di ?_,aJ.step (drawn_drew HF.out) _⟩)
  all_goals(rcases HE.out with h|h|h<;>(first|omega|(split at * <;>omega)))
 case true.false=>
  obtain⟨kk,hkk⟩:∃kk:Int,wC true xs- wC false ys=kk:=⟨_,rfl⟩;have hbd: -2≤kk∧kk≤2:=by rw[←hkk];unfold wC;repeat' split<;>omega
  have hw:wrap64 (wC true xs- wC false ys)=kk:=by rw[hkk];exact fD (by omega) (by omega)
  have HE:=zM (Qc (a:=num true xs) (b:=num false ys) (k:=kk) (by have h2:=pz1 rfl;have h3:=zx rfl;rw[←hkk];simp only[wC,if_neg h3,num];simp;split<;>omega) (by have h2:=pz1 rfl;have h3:=zx rfl;rw[←hkk];simp only[wC,if_neg h3,num];simp;split<;>omega));clear hcall hU KN hc hc2 wx wy zx zy hr px py pz1 pz2 hkk hbd;go_enter Tryz.func116,Tryz.ntmps116;go_wp2_with fail;go_region_with ((go_at_call 162;refine(HC.out _ (by first|exact HU.out.1|exact HU.out.1.drew) (by first|exact HU.out.2|exact HU.out.2.drew)).mono ?_;rintro e w2 ⟨rfl,h1⟩;have HF:=zM h1;have hx0':=aI h1.below hx0;have hy0':=aI h1.below hy0;clear h1))
  all_goals(go_wp2_with fail;go_quiet (fail);go_wp2_with fail)
  all_goals(refine(jL gx ox true xs _ ((HX.out.below (drawn_drew HF.out).below).below (ai (Below.refl _ _) _))).mono ?_;rintro e w' ⟨rfl,rfl⟩;go_wp2_with fail;refine(jL gy oy false ys _ ((HY.out.below (drawn_drew HF.out).below).below (ai (Below.refl _ _) _))).mono ?_;rintro e w' ⟨rfl,rfl⟩;go_wp2)
  all_goals(go_ret;refine⟨Di ?_,aJ.step (drawn_drew HF.out) _⟩)
  all_goals(rcases HE.out with h|h|h<;>(first|omega|(split at * <;>omega)))
theorem Fp (gz:Nat)(n:Int)(w:World)(v0 v1:Value)(hz:w.heap[gz]?=some (.cells #[v0,v1] 173 (0,0)))(h0:0≤n)(h1:n<9223372036854775808):
  Calls Tryz.prog 163 #[.pointer (some ⟨gz,0,none⟩),.int .i64 n] w fun e w'=>∃xs,e= .returned (.pointer (some ⟨gz,0,none⟩))∧iy w' gz false xs∧Wd xs∧val 4294967296 xs=n∧gm (·=gz) w w':=by
 have HZ:=zM hz;have hu:IntKind.u64.wrap n=n:=u64 h0 (by omega);have hd:decide (n<0)=false:=decide_eq_false (by omega)
 have hdig:gV 4294967296 [n%4294967296,n/4294967296]:=by
  refine jX.2 ⟨by omega,jX.2 ⟨by omega,nJ _⟩⟩
 have hv:val 4294967296 [n%4294967296,n/4294967296]=n:=by simp only[val];omega
 have HP:=zM (fun(W:World) (hb:W.heap[gz]?=some (.cells #[v0,v1] 173 (0,0))) A hU=>Dh gz false A 2 [n%4294967296,n/4294967296] W v0 v1 hb hU (by simp) hdig (by simp));have HL:=zM (fun W:World=>Qz W [n%4294967296,n/4294967296] (by simp));have HB:=zM (zA h0 h1);have HV:=zM hv;clear hz hdig hv;go_enter Tryz.func163,Tryz.ntmps163;go_wp2_with fail;have HUl:=zM (by simpa[nums]using HL.out w);obtain⟨r,wr_,hvr,hc⟩:=HP.out _ (((ag (Below.refl w.heap.size w) _).block gz (dV HZ.out)).trans HZ.out) _ HUl.out;refine hc.mono ?_;rintro e w' ⟨rfl,hI,hch⟩;have HI:=zM (zA hI (zA hch (zA wr_ hvr)));clear hI hch wr_ hvr hc;go_wp2_with fail;go_ret;exact⟨r,rfl,by simpa using HI.out.1,HI.out.2.2.1,by rw[HI.out.2.2.2];exact HV.out,gm.dU (ag (Below.refl _ _) _) HI.out.2.1⟩
theorem bZ (w:World)(o:Obj):(w.alloc o).heap[w.heap.size]?=some o:=by simpa using heap_alloc_new w o
theorem jw (n:Int)(w:World)(h0:0≤n)(h1:n<9223372036854775808):
  Calls Tryz.prog 117 #[.int .i64 n] w fun e w'=>∃g xs,e= .returned (.pointer (some ⟨g,0,none⟩))∧w.heap.size≤g∧iy w' g false xs∧Wd xs∧val 4294967296 xs=n∧Below w.heap.size w w':=by
 have HB:=zM (zA h0 h1);clear h0 h1;go_enter Tryz.func117,Tryz.ntmps117;go_wp2_with fail;refine(Fp w.heap.size n _ _ _ (bZ w _) HB.out.1 HB.out.2).mono ?_;rintro e w' ⟨xs,rfl,hI,hw,hv,hc⟩;have HI:=zM (zA hI (zA hw (zA hv hc)));clear hI hw hv hc;go_wp2_with fail;go_ret;exact⟨w.heap.size,xs,rfl,Nat.le_refl _,HI.out.1,HI.out.2.1,HI.out.2.2.1,(gm.dU (ag (Below.refl _ _) _) HI.out.2.2.2).below (fun k hk=>by subst hk;exact Nat.le_refl _)⟩
theorem Vj (n0 n1:Nat)(A0:Option Addr)(c0:Nat)(a:List Int)(A1:Option Addr)(c1:Nat)(b:List Int)(w:World)(h0:a.length=n0)(h1:b.length=n1)(hA:U w A0 a)(ha:n0≤c0)(hB:U w A1 b)(hb:n1≤c1)(wa:Wd a)(wb:Wd b)(hbn:b≠[]):
  Calls Tryz.prog 159 #[.slice A0 n0 c0,.slice A1 n1 c1] w (Nl a b w):=by
 subst h0;subst h1;exact N9 A0 c0 a A1 c1 b w hA ha hB hb wa wb hbn
theorem LP (gz gx gy:Nat)(nx ny:Bool)(xs ys:List Int)(w:World)(v0 v1:Value)(hz:w.heap[gz]?=some (.cells #[v0,v1] 173 (0,0)))(hx:iy w gx nx xs)(hy:iy w gy ny ys)(wx:Wd xs)(wy:Wd ys)(hn:ys≠[]):
  Calls Tryz.prog 164 #[.pointer (some ⟨gz,0,none⟩),.pointer (some ⟨gx,0,none⟩),.pointer (some ⟨gy,0,none⟩)] w fun e w'=>∃q r,e= .returned (.pointer (some ⟨gz,0,none⟩))∧iy w' gz (nx !=ny&& !q.isEmpty) q∧Wd q∧Wd r∧val 4294967296 xs=val 4294967296 q*val 4294967296 ys+val 4294967296 r∧val 4294967296 r<val 4294967296 ys∧gm (·=gz) w w':=by
 obtain⟨A,c,hx0,hx1,hc,hU⟩:=hx.c;obtain⟨A2,c2,hy0,hy1,hc2,KN⟩:=hy.c;have HZ:=zM hz;have HU:=zM (zA hU KN);have HC:=zM (zA hc hc2);have HW:=zM (zA wx (zA wy hn));clear hU KN hc hc2 wx wy hn hz hx hy;go_enter Tryz.func164,Tryz.ntmps164;go_wp2_with fail;go_cut [7,8] (fun v7 v8 wc=>∃q r A3 c3,v7= .slice A3 q.length c3∧Aside0 (Wd q∧Wd r∧val 4294967296 xs=val 4294967296 q*val 4294967296 ys+val 4294967296 r∧val 4294967296 r<val 4294967296 ys∧q.length≤c3∧U wc A3 q∧Below w.heap.size w wc))
 case first=>
  go_region_with ((go_at_call 159;refine(Vj xs.length ys.length A c xs A2 c2 ys _ rfl rfl (by first|exact HU.out.1|exact HU.out.1.drew) HC.out.1 (by first|exact HU.out.2|exact HU.out.2.drew) HC.out.2 HW.out.1 HW.out.2.1 HW.out.2.2).mono ?_;rintro e w2 ⟨q,r,wq,wr,e1,e2,A3,c3,A4,c4,rfl,h3,h4,h5,h6,h7⟩;have HF:=zM (zA wq (zA wr (zA e1 (zA e2 (zA h3 (zA h5 h7))))));clear wq wr e1 e2 h3 h4 h5 h6 h7))
  all_goals(go_wp2_with fail;go_meet;exact⟨q,r,A3,c3,rfl,⟨HF.out.1,HF.out.2.1,HF.out.2.2.1,HF.out.2.2.2.1,HF.out.2.2.2.2.1,HF.out.2.2.2.2.2.1,PQ HF.out.2.2.2.2.2.2⟩⟩)
 case rest=>
  obtain⟨q,r,A3,c3,rfl,HF⟩:=hcut;have hx0':=aI HF.out.2.2.2.2.2.2 hx0;have hy0':=aI HF.out.2.2.2.2.2.2 hy0;go_wp2_with fail;go_region_with ((go_at_call 160;refine(Es q.length gz (nx !=ny) A3 c3 q _ v0 v1 rfl (by have h:=(HF.out.2.2.2.2.2.2).block gz (dV HZ.out);exact h.trans HZ.out) (by first|exact HF.out.2.2.2.2.2.1|exact HF.out.2.2.2.2.2.1.drew) HF.out.2.2.2.2.1 HF.out.1).mono ?_;rintro e w3 ⟨rfl,h4,h5⟩;have HG:=zM (zA h4 h5);clear h4 h5))
  all_goals(go_wp2_with fail;go_ret;exact⟨q,r,rfl,HG.out.1,HF.out.1,HF.out.2.1,HF.out.2.2.1,HF.out.2.2.2.1,gm.dU (dB HF.out.2.2.2.2.2.2) HG.out.2⟩)
def ja (a b:Int):Int:=(Nat.gcd a.toNat b.toNat:Nat)
theorem KH {a b q r:Int}(ha:0≤a)(hb:0<b)(hr:0≤r)(h:a=q*b+r)(hlt:r<b):ja b r=ja a b:=by
 have d:=rX h hr hlt;unfold ja
 congr 1
 have e:r.toNat=a.toNat%b.toNat:=by
  rw[←Int.toNat_emod ha (by omega),d.2]
 rw[e,Nat.gcd_comm,←Nat.gcd_rec,Nat.gcd_comm]
theorem gcd_zero {a:Int}(ha:0≤a):ja a 0=a:=by unfold ja;simp;omega
theorem KG (gz gx gy ox oy:Nat)(nx ny:Bool)(xs ys:List Int)(w:World)(v0 v1 p1 p2:Value)(hz:w.heap[gz]?=some (.cells #[v0,v1] 173 (0,0)))(hx:rH w gx ox nx xs)(hy:rH w gy oy ny ys)(wx:Wd xs)(wy:Wd ys):
  Calls Tryz.prog 114 #[.pointer (some ⟨gz,0,none⟩),p1,p2,.pointer (some ⟨gx,ox,none⟩),.pointer (some ⟨gy,oy,none⟩)] w fun e w'=>∃g,e= .returned (.pointer (some ⟨gz,0,none⟩))∧iy w' gz false g∧Wd g∧val 4294967296 g=ja (val 4294967296 xs) (val 4294967296 ys)∧gm (·=gz) w w':=by
 obtain⟨A,c,hx0,hx1,hc,hU⟩:=hx;obtain⟨A2,c2,hy0,hy1,hc2,KN⟩:=hy;have HZ:=zM hz;have HU:=zM (zA hU KN);have HC:=zM (zA hc hc2);have HW:=zM (zA wx wy);obtain⟨G,hG⟩:∃G,ja (val 4294967296 xs) (val 4294967296 ys)=G:=⟨_,rfl⟩;have HG:=zM hG;clear hU KN hc hc2 wx wy hz hx0 hy0 hG;go_enter Tryz.func114,Tryz.ntmps114;go_wp2_with fail;go_quiet (fail);go_wp2_with fail;go_loopg [11,12] (val 4294967296 ys).toNat (fun kq v11 v12 W=>∃(a b:List Int) (A3:Option Addr) (c3:Nat) (A4:Option Addr) (c4:Nat),v11= .slice A3 a.length c3∧v12= .slice A4 b.length c4∧Aside0 (Wd a∧Wd b∧ja (val 4294967296 a) (val 4294967296 b)=G∧(val 4294967296 b).toNat≤kq∧a.length≤c3∧b.length≤c4∧U W A3 a∧U W A4 b∧Below w.heap.size w W))
 case atStart=>exact⟨xs,ys,A,c,A2,c2,rfl,rfl,⟨HW.out.1,HW.out.2,HG.out,Nat.le_refl _,HC.out.1,HC.out.2,HU.out.1.drewN _,HU.out.2.drewN _,ai (Below.refl _ _) _⟩⟩
 case round=>
  clear HU HC hx1 hy1;obtain⟨a,b,A3,c3,A4,c4,rfl,rfl,HR⟩:=hrel
  by_cases hb:b=[]
  ·have hl:decide (0<b.length)=false:=by subst hb;rfl
   have hl2:decide (0<(b.length:Int))=false:=by subst hb;rfl
   have HB:=zM hb;clear hb;go_wp2_with fail;refine(yD a.length A3 c3 a _ rfl HR.out.2.2.2.2.2.2.1 HR.out.1).mono ?_;rintro e w2 ⟨A5,c5,rfl,h1,h2,h3⟩;have HF:=zM (zA h1 (zA h2 h3));clear h1 h2 h3;have hbw:Below w.heap.size w w2:=ah HR.out.2.2.2.2.2.2.2.2 HR.out.2.2.2.2.2.2.2.2.size HF.out.2.2;have YZ:=zM hbw;clear hbw;go_wp2_with fail;refine(Es a.length gz false A5 c5 a _ v0 v1 rfl ((YZ.out.block gz (dV HZ.out)).trans HZ.out) HF.out.2.1 HF.out.1 HR.out.1).mono ?_;rintro e w3 ⟨rfl,h4,h5⟩;have HH:=zM (zA h4 h5);clear h4 h5;go_wp2_with fail;go_ret;refine⟨a,rfl,by simpa using HH.out.1,HR.out.1,?_,gm.dU YZ.out HH.out.2⟩;have h:=HR.out.2.2.1;rw[HB.out]at h;simp only[val]at h;rw[gcd_zero HR.out.1.qN]at h;exact h.trans HG.out.symm
  ·have hl:decide (0<b.length)=true:=decide_eq_true (List.length_pos_iff.2 hb);have hl2:decide (0<(b.length:Int))=true:=decide_eq_true (by have:=List.length_pos_iff.2 hb;omega);have HB:=zM hb;clear hb;go_wp2_with fail;refine(Vj a.length b.length A3 c3 a A4 c4 b _ rfl rfl HR.out.2.2.2.2.2.2.1 HR.out.2.2.2.2.1 HR.out.2.2.2.2.2.2.2.1 HR.out.2.2.2.2.2.1 HR.out.1 HR.out.2.1 HB.out).mono ?_;rintro e w2 ⟨q,r,wq,wr,e1,e2,A5,c5,A6,c6,rfl,h3,h4,h5,h6,h7⟩;have HF:=zM (zA wr (zA e1 (zA e2 (zA h4 (zA h6 h7)))));clear wq wr e1 e2 h3 h4 h5 h6 h7;go_wp2_with fail;have hpos:=HR.out.2.1.pos HB.out;have hrn:=HF.out.1.qN;cases gk with
   |zero=>exact absurd HR.out.2.2.2.1 (by omega)
   |succ k1=>
    go_roundg k1
    case measure=>omega
    case rel=>exact⟨b,r,A4,c4,A6,c6,rfl,rfl,⟨HR.out.2.1,HF.out.1,by rw[←HR.out.2.2.1];exact KH HR.out.1.qN hpos hrn HF.out.2.1 HF.out.2.2.1,by have:=HR.out.2.2.2.1;have:=HF.out.2.2.1;omega,HR.out.2.2.2.2.2.1,HF.out.2.2.2.1,HR.out.2.2.2.2.2.2.2.1.below HF.out.2.2.2.2.2,HF.out.2.2.2.2.1,ah HR.out.2.2.2.2.2.2.2.2 HR.out.2.2.2.2.2.2.2.2.size HF.out.2.2.2.2.2⟩⟩
theorem DR (c:Int)(cs:List Int):dec 0 (c::cs)=(c- 48)*10^cs.length+dec 0 cs:=by
 simp only[dec];rw[CU];simp
theorem Qj:∀{xs ys:List Int},Num xs→Num ys→xs.length=ys.length→dec 0 xs=dec 0 ys→xs=ys
 | [],ys,_,_,hl,_=>(List.eq_nil_of_length_eq_zero hl.symm).symm
 |x::xs,[],_,_,hl,_=>by simp at hl
 |x::xs,y::ys,hx,hy,hl,h=>by
  have hl':xs.length=ys.length:=by simpa using hl
  rw[DR,DR,←hl']at h;have h1:=jh (xs:=xs) (fun c hc=>hx c (by simp[hc]));have h2:=jh (xs:=ys) (fun c hc=>hy c (by simp[hc]));rw[←hl']at h2;have hp:(0:Int)<10^xs.length:=Int.pow_pos (by decide);have d1:=rX (a:=dec 0 xs+(x- 48)*10^xs.length) (b:=10^xs.length) (q:=x- 48) (r:=dec 0 xs) (by omega) h1.1 h1.2;have d2:=rX (a:=dec 0 ys+(y- 48)*10^xs.length) (b:=10^xs.length) (q:=y- 48) (r:=dec 0 ys) (by omega) h2.1 h2.2;have e:dec 0 xs+(x- 48)*10^xs.length=dec 0 ys+(y- 48)*10^xs.length:=by omega
  rw[e]at d1;have hxy:x=y:=by have:=d1.1.symm.trans d2.1;omega
  have hd:dec 0 xs=dec 0 ys:=d1.2.symm.trans d2.2;rw[hxy,Qj (fun c hc=>hx c (by simp[hc])) (fun c hc=>hy c (by simp[hc])) hl' hd]
theorem AY {s t:ByteArray}(h:bytesOf s=bytesOf t):s=t:=by
 have h1:s.data.toList=t.data.toList:=by
  refine List.map_inj_right (f:=fun b:UInt8=>(b.toNat:Int)) (fun a b hab=>?_)|>.1 h
  exact UInt8.toNat_inj.1 (Int.ofNat.inj hab)
 have h2:s.data=t.data:=Array.toList_inj.1 h1;cases s;cases t;simpa using h2
theorem DL {s:ByteArray}(h:Canon s)(h2:2≤s.size):10^(s.size- 1)≤dv s:=by
 have hl:=bytesOf_length s;have hr:=gW s 0;have hd:=Ac h.2.2 0 (by rw[hl];exact h.1);have hne:bt s 0≠48:=fun e=>by have:=h.2.1 e;omega
 unfold dv;have hnum:=h.2.2;cases hb:bytesOf s with
 |nil=>rw[hb]at hl;simp at hl;omega
 |cons c cs=>
  rw[hb]at hl hr hd hnum;have e:rd (c::cs) 0=c:=rfl;rw[e]at hr hd;have hp:=jh (xs:=cs) (fun x hx=>hnum x (by simp[hx]));rw[DR];simp only[List.length_cons]at hl;rw[show s.size- 1=cs.length by omega];have h10:(0:Int)<10^cs.length:=Int.pow_pos (by decide);have:=Int.mul_le_mul_of_nonneg_right (show 1≤c- 48 by omega) (Int.le_of_lt h10);omega
theorem rU {s t:ByteArray}(h:Canon s)(ht:Canon t)(hle:dv s≤dv t):s.size≤t.size:=by
 rcases Nat.lt_or_ge s.size 2 with h2|h2
 ·have:=ht.1;omega
 ·have h1:=DL h h2;have h3:=(jh ht.2.2).2;rw[bytesOf_length]at h3;unfold dv at hle;refine Classical.byContradiction fun hn=>?_
  have h4:=kH (B:=10) (by omega) (show t.size≤s.size- 1 by omega);unfold dv at h1;omega
theorem zH {s t:ByteArray}(h:Canon s)(ht:Canon t)(he:dv s=dv t):s=t:=by
 have h1:=rU h ht (by omega);have h2:=rU ht h (by omega);exact AY (Qj h.2.2 ht.2.2 (by rw[bytesOf_length,bytesOf_length];omega) he)
theorem JU (d:UInt8)(h0:48≤d.toNat)(h1:d.toNat≤57):Canon ⟨#[d]⟩∧dv ⟨#[d]⟩=d.toNat- 48:=by
 refine⟨⟨by simp[ByteArray.size],fun _=>by simp[ByteArray.size],fun x hx=>?_⟩,?_⟩
 ·simp[bytesOf]at hx;omega
 ·simp[dv,bytesOf,dec]
theorem iZ {s:ByteArray}(h:Canon s)(d:UInt8)(h0:48≤d.toNat)(h1:d.toNat≤57):(s.toList==[d])=true↔dv s=(d.toNat:Int)- 48:=by
 obtain⟨h2,h3⟩:=JU d h0 h1;rw[ByteArray.toList_eq];constructor
 ·intro e;have e2:s.data.toList=[d]:=by simpa using e
  have:s=⟨#[d]⟩:=by cases s;rename_i a;cases a;simpa using e2
  rw[this,h3]
 ·intro e;have:s=⟨#[d]⟩:=zH h h2 (by rw[e,h3]);rw[this];simp
theorem qw (a b:ByteArray)(w:World)(ha:Canon a)(hb:Canon b)(la:a.size≤1000)(lb:b.size≤1000):
  Calls Tryz.prog 93 #[.string a,.string b] w fun e w'=>∃g,e= .returned (.string g)∧Canon g∧dv g=ja (dv a) (dv b)∧Below w.heap.size w w':=by
 have HA:=zM (zA ha (zA hb (zA la lb)));obtain⟨G,hG⟩:∃G,ja (dv a) (dv b)=G:=⟨_,rfl⟩;have HG:=zM hG;rw[hG];clear ha hb la lb hG;go_enter Tryz.func93,Tryz.ntmps93;go_wp2_with fail;go_loopg [0,1] ((dv b).toNat+1) (fun kq v0 v1 W=>∃s t:ByteArray,v0= .string s∧v1= .string t∧Aside0 (Canon s∧Canon t∧s.size≤1000∧t.size≤1000∧ja (dv s) (dv t)=G∧(dv t).toNat+1≤kq∧Below w.heap.size w W))
 case atStart=>exact⟨a,b,rfl,rfl,⟨HA.out.1,HA.out.2.1,HA.out.2.2.1,HA.out.2.2.2,HG.out,Nat.le_refl _,Below.refl _ _⟩⟩
 case round=>
  obtain⟨s,t,rfl,rfl,HR⟩:=hrel;have his:=iZ HR.out.2.1 48 (by decide) (by decide);have hs0:0≤dv s:=(jh HR.out.1.2.2).1;have ht0:0≤dv t:=(jh HR.out.2.1.2.2).1
  by_cases hz:dv t=0
  ·have h1:(t.toList==[48])=true:=his.2 (by rw[hz];rfl);have h2:(t.toList !=[48])=false:=by rw[bne,h1];rfl
   have HZ:=zM (zA hz hs0);clear his hz hs0 ht0;go_wp2_with fail;go_ret;refine⟨s,rfl,HR.out.1,?_,HR.out.2.2.2.2.2.2⟩;have h:=HR.out.2.2.2.2.1;rw[HZ.out.1,gcd_zero HZ.out.2]at h;exact h
  ·have h1:(t.toList==[48])=false:=Bool.eq_false_iff.mpr (fun h=>hz (by rw[his.1 h];rfl));have h2:(t.toList !=[48])=true:=by rw[bne,h1];rfl
   have HZ:=zM (zA hz (zA hs0 ht0));clear his hz hs0 ht0;obtain⟨k1,rfl⟩:∃k1,gk=k1+1:=⟨gk- 1,by have:=HR.out.2.2.2.2.2.1;omega⟩;go_wp2_with fail;refine(J3 s t _ HR.out.1 HR.out.2.1 HZ.out.1 HR.out.2.2.1 HR.out.2.2.2.1).mono ?_;rintro e w2 ⟨q,r,rfl,h3,⟨k,hk⟩,h5,h6,h7⟩;have HF:=zM (zA h3 (zA hk (zA h5 (zA h6 (ah HR.out.2.2.2.2.2.2 HR.out.2.2.2.2.2.2.size h7)))));clear h3 hk h5 h6 h7;go_wp2_with fail;go_roundg k1
   case measure=>omega
   case rel=>
    have h1:=HZ.out;have h2:=HF.out;refine⟨t,r,rfl,rfl,⟨HR.out.2.1,h2.1,HR.out.2.2.2.1,?_,?_,?_,h2.2.2.2.2⟩⟩
    ·have:=rU h2.1 HR.out.2.1 (by omega);have:=HR.out.2.2.2.1;omega
    ·rw[←HR.out.2.2.2.2.1];exact KH h1.2.1 (by omega) h2.2.2.1 h2.2.1 h2.2.2.2.1
    ·have:=HR.out.2.2.2.2.2.1;omega
end Go.Proofs.YthbdjmopolpjmaaGreatDoor.C
