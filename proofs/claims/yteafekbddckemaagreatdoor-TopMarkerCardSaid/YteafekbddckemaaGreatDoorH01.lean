/- Parts of the proof. -/
import Derived.Shelf.Bits.Mul64
import Derived.Shelf.SlSortCmp.Insertion1
import Derived.Shelf.Slices.Clone
import Derived.Shelf.Slices.SearchI
import Derived.Shelf.Slices.Turned
import Derived.Shelf.SlicesE.Clone
import Derived.Shelf.Small.Wraps
import Derived.Shelf.Strconv.Atoi
import Derived.Shelf.Strconv.Itoa3
import Derived.Shelf.Strconv.ParseInt10All
import Derived.Shelf.Strconv.ToError
import Derived.Shelf.Strconv.ToErrorRange
import Derived.Shelf.Strings.BuilderCap
import Derived.Shelf.Strings.Explode
import Derived.Shelf.Strings.Shaped
import Derived.Shelf.Strings.SplitShaped
import Derived.Shelf.Unicode.DecodeSlow
import Derived.Shelf.Utf8.RuneCount
import Derived.Test.YteafekbddckemaaGreatDoorH00
set_option maxRecDepth 100000
set_option maxHeartbeats 40000000
namespace Go.Proofs
open Go.Shelf Tryz YteafekbddckemaaGreatDoor
def Tryz.lays169_ren:Ren:=⟨fun|169=>28|n=>n,fun|70=>91|9=>9|0=>0|72=>94|37=>92|127=>120|3=>3|5=>5|n=>n,fun|n=>n⟩
theorem Tryz.lays169:Lays.n169 Tryz.prog Tryz.lays169_ren:={mixed:=by kernel_rfl,f169:=func28.trans zj,t0:=underlying0,a0:=isAgg0,z0:=sizeOf0,v0:=zeroValue0,t3:=underlying3,a3:=isAgg3,z3:=sizeOf3,v3:=zeroValue3,t9:=underlying9,a9:=isAgg9,z9:=sizeOf9,v9:=zeroValue9,t37:=underlying92,a37:=isAgg92,z37:=sizeOf92,v37:=zeroValue92,t70:=underlying91,a70:=isAgg91,z70:=sizeOf91,v70:=zeroValue91,t72:=underlying94,a72:=isAgg94,z72:=sizeOf94,v72:=zeroValue94,t127:=underlying120,a127:=isAgg120,z127:=sizeOf120,v127:=zeroValue120 }
theorem Tryz.Builder_Extra_169:Builder.Extra Tryz.prog Tryz.lays169_ren:={sizeBuilder:=by kernel_rfl,liesBuilder:=by kernel_rfl,t5:=underlying5,a5:=isAgg5,z5:=sizeOf5,v5:=zeroValue5,infoByte:=by kernel_rfl,cellsByte:=by kernel_rfl,sizeByte:=by kernel_rfl,neB5:=by decide }
open Go.RowKit in
theorem Tryz.Builder_String_any(B b:Nat)(l:List UInt8)(w:World)(h:Lib.IsBuilder 94 5 B b (Lib.byteCells l) w)(hBw:B<=w.heap.size) :
  Calls Tryz.prog 28 #[.pointer (some ⟨b,0,none⟩)] w λe w'=>e=.returned (.string ⟨l.toArray⟩)∧Below B w w':=Any.Builder_String_any Tryz.lays169 Tryz.Builder_Extra_169 B b l w h hBw
def Tryz.lays128_ren:Ren:=⟨fun|128=>197|n=>n,fun|51=>261|3=>3|4=>4|46=>193|5=>5|9=>9|n=>n,fun|n=>n⟩
def Tryz.lays125_ren:Ren:=⟨fun|125=>145|128=>197|129=>198|n=>n,fun|46=>193|3=>3|51=>261|53=>256|4=>4|5=>5|9=>9|n=>n,fun|n=>n⟩
theorem Tryz.lays125:Lays.n125 Tryz.prog Tryz.lays125_ren:={mixed:=by kernel_rfl,f125:=func145.trans zj,f128:=func197.trans zj,f129:=func198.trans zj,t3:=underlying3,a3:=isAgg3,z3:=sizeOf3,v3:=zeroValue3,t4:=underlying4,a4:=isAgg4,z4:=sizeOf4,v4:=zeroValue4,t5:=underlying5,a5:=isAgg5,z5:=sizeOf5,v5:=zeroValue5,t9:=underlying9,a9:=isAgg9,z9:=sizeOf9,v9:=zeroValue9,t46:=underlying193,a46:=isAgg193,z46:=sizeOf193,v46:=zeroValue193,t51:=underlying261,a51:=isAgg261,z51:=sizeOf261,v51:=zeroValue261,t53:=underlying256,a53:=isAgg256,z53:=sizeOf256,v53:=zeroValue256 }
theorem Tryz.bits_Len(x:Int)(w:World)(h0:0<=x)(h1:x<=18446744073709551615) :
  Calls Tryz.prog 145 #[.int .u64 x] w λe w'=>e=.returned (.int .i64 (Lib.bitLen x.toNat))∧w'=w:=Any.bits_Len Tryz.lays125 x w h0 h1
def Tryz.lays133_ren:Ren:=⟨fun|133=>306|128=>197|n=>n,fun|51=>261|3=>3|4=>4|46=>193|5=>5|9=>9|n=>n,fun|n=>n⟩
theorem Tryz.lays133:Lays.n133 Tryz.prog Tryz.lays133_ren:={mixed:=by kernel_rfl,f128:=func197.trans zj,f133:=func306.trans zj,t3:=underlying3,a3:=isAgg3,z3:=sizeOf3,v3:=zeroValue3,t4:=underlying4,a4:=isAgg4,z4:=sizeOf4,v4:=zeroValue4,t5:=underlying5,a5:=isAgg5,z5:=sizeOf5,v5:=zeroValue5,t9:=underlying9,a9:=isAgg9,z9:=sizeOf9,v9:=zeroValue9,t46:=underlying193,a46:=isAgg193,z46:=sizeOf193,v46:=zeroValue193,t51:=underlying261,a51:=isAgg261,z51:=sizeOf261,v51:=zeroValue261 }
theorem Tryz.bits_LeadingZeros32(x:Int)(w:World)(h0:0<=x)(h1:x<=4294967295) :
  Calls Tryz.prog 306 #[.int .u32 x] w λe w'=>e=.returned (.int .i64 (32-(Lib.bitLen x.toNat:Int)))∧w'=w:=Any.bits_LeadingZeros32 Tryz.lays133 x w h0 h1
def Tryz.lays134_ren:Ren:=⟨fun|134=>261|129=>198|n=>n,fun|53=>256|3=>3|4=>4|46=>193|5=>5|9=>9|n=>n,fun|n=>n⟩
theorem Tryz.lays134:Lays.n134 Tryz.prog Tryz.lays134_ren:={mixed:=by kernel_rfl,f129:=func198.trans zj,f134:=func261.trans zj,t3:=underlying3,a3:=isAgg3,z3:=sizeOf3,v3:=zeroValue3,t4:=underlying4,a4:=isAgg4,z4:=sizeOf4,v4:=zeroValue4,t5:=underlying5,a5:=isAgg5,z5:=sizeOf5,v5:=zeroValue5,t9:=underlying9,a9:=isAgg9,z9:=sizeOf9,v9:=zeroValue9,t46:=underlying193,a46:=isAgg193,z46:=sizeOf193,v46:=zeroValue193,t53:=underlying256,a53:=isAgg256,z53:=sizeOf256,v53:=zeroValue256 }
theorem Tryz.bits_LeadingZeros64(x:Int)(w:World)(h0:0<=x)(h1:x<=18446744073709551615) :
  Calls Tryz.prog 261 #[.int .u64 x] w λe w'=>e=.returned (.int .i64 (64-(Lib.bitLen x.toNat:Int)))∧w'=w:=Any.bits_LeadingZeros64 Tryz.lays134 x w h0 h1
def Tryz.lays103_ren:Ren:=⟨fun|103=>157|210=>205|206=>245|n=>n,fun|9=>9|4=>4|24=>267|3=>3|n=>n,fun|n=>n⟩
theorem Tryz.lays103:Lays.n103 Tryz.prog Tryz.lays103_ren:={mixed:=by kernel_rfl,f103:=func157.trans zj,f206:=func245.trans zj,f210:=func205.trans zj,t3:=underlying3,a3:=isAgg3,z3:=sizeOf3,v3:=zeroValue3,t4:=underlying4,a4:=isAgg4,z4:=sizeOf4,v4:=zeroValue4,t9:=underlying9,a9:=isAgg9,z9:=sizeOf9,v9:=zeroValue9,t24:=underlying267,a24:=isAgg267,z24:=sizeOf267,v24:=zeroValue267 }
open Go.RowKit in
theorem Tryz.strings_CutPrefix(s p:ByteArray)(w:World) :
  Calls Tryz.prog 157 #[.string s,.string p] w λe w'=>e=.returned (.tuple #[.string ⟨(Lib.trimPrefix s.data.toList p.data.toList).toArray⟩,.bool (Lib.hasPrefix s.data.toList p.data.toList)])∧w'=w:=Any.strings_CutPrefix Tryz.lays103 s p w
def Tryz.lays215_ren:Ren:=⟨fun|215=>147|n=>n,fun|3=>3|4=>4|n=>n,fun|n=>n⟩
def Tryz.lays122_ren:Ren:=⟨fun|122=>107|215=>147|n=>n,fun|3=>3|4=>4|n=>n,fun|n=>n⟩
theorem Tryz.lays122:Lays.n122 Tryz.prog Tryz.lays122_ren:={mixed:=by kernel_rfl,f122:=func107.trans zj,f215:=func147.trans zj,t3:=underlying3,a3:=isAgg3,z3:=sizeOf3,v3:=zeroValue3,t4:=underlying4,a4:=isAgg4,z4:=sizeOf4,v4:=zeroValue4 }
open Go.RowKit in
theorem Tryz.cmp_Compare_int(x y:Int)(w:World) :
  Calls Tryz.prog 107 #[.int .i64 x,.int .i64 y] w λe w'=>e=.returned (.int .i64 (Lib.compareInt x y))∧w'=w:=Any.cmp_Compare_int Tryz.lays122 x y w
def Tryz.lays172_ren:Ren:=⟨fun|172=>158|244=>206|245=>207|247=>246|279=>247|280=>248|281=>249|282=>250|287=>277|316=>278|171=>42|205=>279|321=>302|322=>303|243=>75|246=>108|283=>148|284=>149|285=>150|286=>151|129=>198|317=>200|318=>201|319=>202|320=>203|337=>243|338=>244|n=>n,fun|9=>9|3=>3|75=>96|76=>97|4=>4|5=>5|167=>343|37=>92|0=>0|85=>344|2=>2|168=>346|53=>256|175=>369|46=>193|210=>373|127=>120|145=>389|143=>387|21=>21|171=>255|173=>259|212=>304|51=>261|20=>20|213=>305|232=>367|233=>368|80=>101|n=>n,fun|15=>9|16=>10|17=>1|18=>7|19=>8|n=>n⟩
theorem Tryz.lays172:Lays.n172 Tryz.prog Tryz.lays172_ren:={mixed:=by kernel_rfl,f129:=func198.trans zj,f171:=func42.trans zj,f172:=func158.trans zj,f205:=func279.trans zj,f243:=func75.trans zj,f244:=func206.trans zj,f245:=func207.trans zj,f246:=func108.trans zj,f247:=func246.trans zj,f279:=func247.trans zj,f280:=func248.trans zj,f281:=func249.trans zj,f282:=func250.trans zj,f283:=func148.trans zj,f284:=func149.trans zj,f285:=func150.trans zj,f286:=func151.trans zj,f287:=func277.trans zj,f316:=func278.trans zj,f317:=func200.trans zj,f318:=func201.trans zj,f319:=func202.trans zj,f320:=func203.trans zj,f321:=func302.trans zj,f322:=func303.trans zj,f337:=func243.trans zj,f338:=func244.trans zj,t0:=underlying0,a0:=isAgg0,z0:=sizeOf0,v0:=zeroValue0,t2:=underlying2,a2:=isAgg2,z2:=sizeOf2,v2:=zeroValue2,t3:=underlying3,a3:=isAgg3,z3:=sizeOf3,v3:=zeroValue3,t4:=underlying4,a4:=isAgg4,z4:=sizeOf4,v4:=zeroValue4,t5:=underlying5,a5:=isAgg5,z5:=sizeOf5,v5:=zeroValue5,t9:=underlying9,a9:=isAgg9,z9:=sizeOf9,v9:=zeroValue9,t20:=underlying20,a20:=isAgg20,z20:=sizeOf20,v20:=zeroValue20,t21:=underlying21,a21:=isAgg21,z21:=sizeOf21,v21:=zeroValue21,t37:=underlying92,a37:=isAgg92,z37:=sizeOf92,v37:=zeroValue92,t46:=underlying193,a46:=isAgg193,z46:=sizeOf193,v46:=zeroValue193,t51:=underlying261,a51:=isAgg261,z51:=sizeOf261,v51:=zeroValue261,t53:=underlying256,a53:=isAgg256,z53:=sizeOf256,v53:=zeroValue256,t75:=underlying96,a75:=isAgg96,z75:=sizeOf96,v75:=zeroValue96,t76:=underlying97,a76:=isAgg97,z76:=sizeOf97,v76:=zeroValue97,t85:=underlying344,a85:=isAgg344,z85:=sizeOf344,v85:=zeroValue344,t127:=underlying120,a127:=isAgg120,z127:=sizeOf120,v127:=zeroValue120,t143:=underlying387,a143:=isAgg387,z143:=sizeOf387,v143:=zeroValue387,t145:=underlying389,a145:=isAgg389,z145:=sizeOf389,v145:=zeroValue389,t167:=underlying343,a167:=isAgg343,z167:=sizeOf343,v167:=zeroValue343,t168:=underlying346,a168:=isAgg346,z168:=sizeOf346,v168:=zeroValue346,t171:=underlying255,a171:=isAgg255,z171:=sizeOf255,v171:=zeroValue255,t173:=underlying259,a173:=isAgg259,z173:=sizeOf259,v173:=zeroValue259,t175:=underlying369,a175:=isAgg369,z175:=sizeOf369,v175:=zeroValue369,t210:=underlying373,a210:=isAgg373,z210:=sizeOf373,v210:=zeroValue373,t212:=underlying304,a212:=isAgg304,z212:=sizeOf304,v212:=zeroValue304,t213:=underlying305,a213:=isAgg305,z213:=sizeOf305,t232:=underlying367,a232:=isAgg367,z232:=sizeOf367,v232:=zeroValue367,t233:=underlying368,a233:=isAgg368,z233:=sizeOf368,v233:=zeroValue368,g15:=by kernel_rfl,g16:=by kernel_rfl,g17:=by kernel_rfl,g18:=by kernel_rfl,g19:=by kernel_rfl }
open Go.RowKit in
theorem Tryz.strconv_Atoi(s:ByteArray)(n:Int)(hl:s.size<=18)(h:Lib.atoi s.data.toList=some n)(w:World) :
  Calls Tryz.prog 158 #[.string s] w λe w'=>e=.returned (.tuple #[.int .i64 n,.nilIface])∧∃t,w'=Lib.bytesWorld w 5 t:=Any.strconv_Atoi Tryz.lays172 s n hl h w
def Tryz.laysM246_ren:Ren:=⟨fun|246=>108|283=>148|284=>149|285=>150|286=>151|129=>198|317=>200|318=>201|319=>202|320=>203|337=>243|338=>244|n=>n,fun|2=>2|3=>3|9=>9|4=>4|171=>255|0=>0|53=>256|37=>92|5=>5|173=>259|212=>304|51=>261|20=>20|213=>305|46=>193|232=>367|233=>368|n=>n,fun|17=>1|18=>7|19=>8|n=>n⟩
def Tryz.laysM243_ren:Ren:=⟨fun|243=>75|246=>108|283=>148|284=>149|285=>150|286=>151|129=>198|317=>200|318=>201|319=>202|320=>203|337=>243|338=>244|n=>n,fun|3=>3|9=>9|2=>2|4=>4|171=>255|0=>0|53=>256|37=>92|5=>5|173=>259|212=>304|51=>261|20=>20|213=>305|46=>193|232=>367|233=>368|n=>n,fun|17=>1|18=>7|19=>8|n=>n⟩
def Tryz.laysM171_ren:Ren:=⟨fun|171=>42|243=>75|246=>108|283=>148|284=>149|285=>150|286=>151|129=>198|317=>200|318=>201|319=>202|320=>203|337=>243|338=>244|n=>n,fun|3=>3|9=>9|2=>2|4=>4|171=>255|0=>0|53=>256|37=>92|5=>5|173=>259|212=>304|51=>261|20=>20|213=>305|46=>193|232=>367|233=>368|n=>n,fun|17=>1|18=>7|19=>8|n=>n⟩
theorem Tryz.laysM171:LaysM.n171 Tryz.prog Tryz.laysM171_ren:={mixed:=by kernel_rfl,f129:=func198.trans zj,f171:=func42.trans zj,f243:=func75.trans zj,f246:=func108.trans zj,f283:=func148.trans zj,f284:=func149.trans zj,f285:=func150.trans zj,f286:=func151.trans zj,f317:=func200.trans zj,f318:=func201.trans zj,f319:=func202.trans zj,f320:=func203.trans zj,f337:=func243.trans zj,f338:=func244.trans zj,t0:=underlying0,a0:=isAgg0,z0:=sizeOf0,v0:=zeroValue0,t2:=underlying2,a2:=isAgg2,z2:=sizeOf2,v2:=zeroValue2,t3:=underlying3,a3:=isAgg3,z3:=sizeOf3,v3:=zeroValue3,t4:=underlying4,a4:=isAgg4,z4:=sizeOf4,v4:=zeroValue4,t5:=underlying5,a5:=isAgg5,z5:=sizeOf5,v5:=zeroValue5,t9:=underlying9,a9:=isAgg9,z9:=sizeOf9,v9:=zeroValue9,t20:=underlying20,a20:=isAgg20,z20:=sizeOf20,v20:=zeroValue20,t37:=underlying92,a37:=isAgg92,z37:=sizeOf92,v37:=zeroValue92,t46:=underlying193,a46:=isAgg193,z46:=sizeOf193,v46:=zeroValue193,t51:=underlying261,a51:=isAgg261,z51:=sizeOf261,v51:=zeroValue261,t53:=underlying256,a53:=isAgg256,z53:=sizeOf256,v53:=zeroValue256,t171:=underlying255,a171:=isAgg255,z171:=sizeOf255,v171:=zeroValue255,t173:=underlying259,a173:=isAgg259,z173:=sizeOf259,v173:=zeroValue259,t212:=underlying304,a212:=isAgg304,z212:=sizeOf304,v212:=zeroValue304,t213:=underlying305,a213:=isAgg305,z213:=sizeOf305,t232:=underlying367,a232:=isAgg367,z232:=sizeOf367,v232:=zeroValue367,t233:=underlying368,a233:=isAgg368,z233:=sizeOf368,v233:=zeroValue368,g17:=by kernel_rfl,g18:=by kernel_rfl,g19:=by kernel_rfl,i0:=by kernel_rfl,i2:=by kernel_rfl,i3:=by kernel_rfl,i4:=by kernel_rfl,i5:=by kernel_rfl,i9:=by kernel_rfl,i20:=by kernel_rfl,i37:=by kernel_rfl,i46:=by kernel_rfl,i51:=by kernel_rfl,i53:=by kernel_rfl,i171:=by kernel_rfl,i173:=by kernel_rfl,i212:=by kernel_rfl,i232:=by kernel_rfl,i233:=by kernel_rfl,m17:=by kernel_rfl,m18:=by kernel_rfl,m19:=by kernel_rfl }
open Go.RowKit Go.Sort Go.Lib in
theorem Tryz.strconv_Itoa (n : Int) (h0 : -9223372036854775808 ≤ n) (h1 : n ≤ 9223372036854775807) (w : World) (htab : Lib.TabIs Tryz.prog w "internal/strconv.uint64pow10" .u64 Lib.pow10Tab) :
  Calls Tryz.prog 42 #[.int .i64 n] w λe w'=>e=.returned (.string ⟨(Lib.itoa n).toArray⟩)∧∃k os,w'=grow (w.drewN k) os:=Any.strconv_Itoa Tryz.laysM171 n h0 h1 w htab
def Tryz.lays219_ren:Ren:=⟨fun|219=>76|217=>109|225=>110|224=>111|267=>112|266=>152|314=>153|n=>n,fun|9=>9|3=>3|4=>4|5=>5|46=>193|146=>262|51=>261|n=>n,fun|1=>0|n=>n⟩
def Tryz.lays145_ren:Ren:=⟨fun|145=>29|220=>43|219=>76|217=>109|225=>110|224=>111|267=>112|266=>152|314=>153|n=>n,fun|9=>9|4=>4|59=>102|3=>3|5=>5|46=>193|146=>262|51=>261|n=>n,fun|1=>0|n=>n⟩
theorem Tryz.lays145:Lays.n145 Tryz.prog Tryz.lays145_ren:={mixed:=by kernel_rfl,f145:=func29.trans zj,f217:=func109.trans zj,f219:=func76.trans zj,f220:=func43.trans zj,f224:=func111.trans zj,f225:=func110.trans zj,f266:=func152.trans zj,f267:=func112.trans zj,f314:=func153.trans zj,t3:=underlying3,a3:=isAgg3,z3:=sizeOf3,v3:=zeroValue3,t4:=underlying4,a4:=isAgg4,z4:=sizeOf4,v4:=zeroValue4,t5:=underlying5,a5:=isAgg5,z5:=sizeOf5,v5:=zeroValue5,t9:=underlying9,a9:=isAgg9,z9:=sizeOf9,v9:=zeroValue9,t46:=underlying193,a46:=isAgg193,z46:=sizeOf193,v46:=zeroValue193,t51:=underlying261,a51:=isAgg261,z51:=sizeOf261,v51:=zeroValue261,t59:=underlying102,a59:=isAgg102,z59:=sizeOf102,v59:=zeroValue102,t146:=underlying262,a146:=isAgg262,z146:=sizeOf262,v146:=zeroValue262,g1:=by kernel_rfl }
open Go.RowKit Go.Lib in
theorem Tryz.strings_Cut(s sep:ByteArray)(m:Int)(w:World)(hs:s.size<4294967281)(hm:w.cell? ⟨0,0,none⟩=some (.int .i64 m)) :
  Calls Tryz.prog 29 #[.string s,.string sep] w λe w'=>e=.returned (.tuple #[.string ⟨(Lib.cut s.data.toList sep.data.toList).1.toArray⟩,.string ⟨(Lib.cut s.data.toList sep.data.toList).2.1.toArray⟩,.bool (Lib.cut s.data.toList sep.data.toList).2.2])∧∃n,w'=w.drewN n:=Any.strings_Cut Tryz.lays145 s sep m w hs hm
def Tryz.lays221_ren:Ren:=⟨fun|221=>77|268=>113|138=>114|143=>115|195=>154|197=>155|218=>156|219=>76|260=>204|217=>109|225=>110|224=>111|267=>112|266=>152|314=>153|n=>n,fun|9=>9|3=>3|31=>22|4=>4|0=>0|105=>265|21=>21|5=>5|46=>193|119=>338|139=>341|138=>340|146=>262|51=>261|n=>n,fun|1=>0|3=>2|4=>3|n=>n⟩
def Tryz.lays146_ren:Ren:=⟨fun|146=>44|221=>77|268=>113|138=>114|143=>115|195=>154|197=>155|218=>156|219=>76|260=>204|217=>109|225=>110|224=>111|267=>112|266=>152|314=>153|n=>n,fun|9=>9|31=>22|3=>3|4=>4|0=>0|105=>265|21=>21|5=>5|46=>193|119=>338|139=>341|138=>340|146=>262|51=>261|n=>n,fun|1=>0|3=>2|4=>3|n=>n⟩
theorem Tryz.lays146:Lays.n146 Tryz.prog Tryz.lays146_ren:={mixed:=by kernel_rfl,f138:=func114.trans zj,f143:=func115.trans zj,f146:=func44.trans zj,f195:=func154.trans zj,f197:=func155.trans zj,f217:=func109.trans zj,f218:=func156.trans zj,f219:=func76.trans zj,f221:=func77.trans zj,f224:=func111.trans zj,f225:=func110.trans zj,f260:=func204.trans zj,f266:=func152.trans zj,f267:=func112.trans zj,f268:=func113.trans zj,f314:=func153.trans zj,t0:=underlying0,a0:=isAgg0,z0:=sizeOf0,v0:=zeroValue0,t3:=underlying3,a3:=isAgg3,z3:=sizeOf3,v3:=zeroValue3,t4:=underlying4,a4:=isAgg4,z4:=sizeOf4,v4:=zeroValue4,t5:=underlying5,a5:=isAgg5,z5:=sizeOf5,v5:=zeroValue5,t9:=underlying9,a9:=isAgg9,z9:=sizeOf9,v9:=zeroValue9,t21:=underlying21,a21:=isAgg21,z21:=sizeOf21,v21:=zeroValue21,t31:=underlying22,a31:=isAgg22,z31:=sizeOf22,v31:=zeroValue22,t46:=underlying193,a46:=isAgg193,z46:=sizeOf193,v46:=zeroValue193,t51:=underlying261,a51:=isAgg261,z51:=sizeOf261,v51:=zeroValue261,t105:=underlying265,a105:=isAgg265,z105:=sizeOf265,v105:=zeroValue265,t119:=underlying338,a119:=isAgg338,z119:=sizeOf338,t138:=underlying340,a138:=isAgg340,z138:=sizeOf340,v138:=zeroValue340,t139:=underlying341,a139:=isAgg341,z139:=sizeOf341,v139:=zeroValue341,t146:=underlying262,a146:=isAgg262,z146:=sizeOf262,v146:=zeroValue262,g1:=by kernel_rfl,g3:=by kernel_rfl,g4:=by kernel_rfl }
open Go.RowKit Go.Lib in
theorem Tryz.strings_Split(s sep:ByteArray)(m:Int)(w:World)(hs:s.size<4294967281)(hm:w.cell? ⟨0,0,none⟩=some (.int .i64 m))(h1:1<=sep.size) :
  Calls Tryz.prog 44 #[.string s,.string sep] w λe w'=>
   e=.returned (.slice (some ⟨w.heap.size,0,none⟩) (Lib.countB s sep+1) (Lib.countB s sep+1))∧w'=w.alloc (.cells ((Lib.splitB sep 0 (Lib.countB s sep) s).map Value.string).toArray 9):=Any.strings_Split Tryz.lays146 (by kernel_rfl) s sep m w hs hm h1
def Tryz.lays264_ren:Ren:=⟨fun|264=>218|n=>n,fun|53=>256|46=>193|n=>n,fun|n=>n⟩
theorem Tryz.lays264:Lays.n264 Tryz.prog Tryz.lays264_ren:={mixed:=by kernel_rfl,f264:=func218.trans zj,t46:=underlying193,a46:=isAgg193,z46:=sizeOf193,v46:=zeroValue193,t53:=underlying256,a53:=isAgg256,z53:=sizeOf256,v53:=zeroValue256 }
open Go.RowKit Go.Lib in
theorem Tryz.bits_Mul64(x y:Nat)(hx:x<18446744073709551616)(hy:y<18446744073709551616)(w:World) :
  Calls Tryz.prog 218 #[.int .u64 x,.int .u64 y] w λe w'=>e=.returned (.tuple #[.int .u64 ((x*y/18446744073709551616:Nat):Int),.int .u64 ((x*y%18446744073709551616:Nat):Int)])∧w'=w:=Any.bits_Mul64 Tryz.lays264 x y hx hy w
def Tryz.lays107_ren:Ren:=⟨fun|107=>82|108=>119|n=>n,fun|28=>23|3=>3|4=>4|0=>0|n=>n,fun|n=>n⟩
theorem Tryz.lays107:Lays.n107 Tryz.prog Tryz.lays107_ren:={mixed:=by kernel_rfl,f107:=func82.trans zj,f108:=func119.trans zj,t0:=underlying0,a0:=isAgg0,z0:=sizeOf0,v0:=zeroValue0,t3:=underlying3,a3:=isAgg3,z3:=sizeOf3,v3:=zeroValue3,t4:=underlying4,a4:=isAgg4,z4:=sizeOf4,v4:=zeroValue4,t28:=underlying23,a28:=isAgg23,z28:=sizeOf23,v28:=zeroValue23 }
open Go.Lib in
theorem Tryz.slices_Contains_int(b off n c:Nat)(zs:List Int)(x:Int)(w:World)(hz:n<=zs.length)(hbig:n<=9223372036854775807)(hc:∀j,j<zs.length->w.cell? ⟨b,off+j,none⟩=some (.int .i64 (zs.getD j 0))) :
  Calls Tryz.prog 82 #[.slice (some ⟨b,off,none⟩) n c,.int .i64 x] w λe w'=>e=.returned (.bool ((zs.take n).contains x))∧w'=w:=Any.slices_Contains_int Tryz.lays107 b off n c zs x w hz hbig hc
open Go.Lib in
theorem Tryz.slices_Contains_int_empty(a:Option Addr)(c:Nat)(x:Int)(w:World) :
  Calls Tryz.prog 82 #[.slice a 0 c,.int .i64 x] w λe w'=>e=.returned (.bool false)∧w'=w:=Any.slices_Contains_int_empty Tryz.lays107 a c x w
def Tryz.lays110_ren:Ren:=⟨fun|110=>163|109=>213|n=>n,fun|31=>22|9=>9|4=>4|3=>3|0=>0|n=>n,fun|n=>n⟩
theorem Tryz.lays110:Lays.n110 Tryz.prog Tryz.lays110_ren:={mixed:=by kernel_rfl,f109:=func213.trans zj,f110:=func163.trans zj,t0:=underlying0,a0:=isAgg0,z0:=sizeOf0,v0:=zeroValue0,t3:=underlying3,a3:=isAgg3,z3:=sizeOf3,v3:=zeroValue3,t4:=underlying4,a4:=isAgg4,z4:=sizeOf4,v4:=zeroValue4,t9:=underlying9,a9:=isAgg9,z9:=sizeOf9,v9:=zeroValue9,t31:=underlying22,a31:=isAgg22,z31:=sizeOf22,v31:=zeroValue22 }
open Go.Lib in
theorem Tryz.slices_Contains_string(b off n c:Nat)(zs:List ByteArray)(x:ByteArray)(w:World)(hz:n<=zs.length)(hbig:n<=9223372036854775807)(hc:∀j,j<zs.length->w.cell? ⟨b,off+j,none⟩=some (.string (zs.getD j ByteArray.empty))) :
  Calls Tryz.prog 163 #[.slice (some ⟨b,off,none⟩) n c,.string x] w λe w'=>e=.returned (.bool (Lib.containsS (zs.take n) x))∧w'=w:=Any.slices_Contains_string Tryz.lays110 b off n c zs x w hz hbig hc
open Go.Lib in
theorem Tryz.slices_Contains_string_empty(a:Option Addr)(c:Nat)(x:ByteArray)(w:World) :
  Calls Tryz.prog 163 #[.slice a 0 c,.string x] w λe w'=>e=.returned (.bool false)∧w'=w:=Any.slices_Contains_string_empty Tryz.lays110 a c x w
def Tryz.laysSlE041_f22_ren:Ren:=⟨fun|41=>22|n=>n,fun|22=>23|23=>3|4=>4|n=>n,fun|n=>n⟩
theorem Tryz.laysSlE041_f22:Go.Proofs.SlLaysE0.n41 Tryz.prog Tryz.laysSlE041_f22_ren:={mixed:=by kernel_rfl,f41:=⟨f22.name,by decide,func22.trans zj⟩,t4:=underlying4,a4:=isAgg4,z4:=sizeOf4,v4:=zeroValue4,t22:=underlying23,a22:=isAgg23,z22:=sizeOf23,v22:=zeroValue23 }
open Go.RowKit Go.Lib in
theorem Tryz.slices_Clone(i0:TypeInfo)(z:Value)(size bytes:Nat)(hi:Tryz.prog.info? 3=some i0)(hz0:i0.zero=some z)(hz1:i0.size=size)(hz2:i0.bytes=bytes)(hzs:z.cells.size=size)(hsz:0<size)(z23:∀w,(Go.sizeOf 3).run Tryz.prog w=.ok size w)(b off n c:Nat)(news:List Value)(w:World)(hl:news.length=n*size)(hn:n<=maxLen)(hbig:n*bytes<=140737488355328)(hc:∀j u,news[j]?=some u->w.cell? ⟨b,off+j,none⟩=some u)(h1:∀u∈news,u.oneCell'=true) :
  Calls Tryz.prog 22 #[.slice (some ⟨b,off,none⟩) n c] w λe w'=>∃v',e=.returned v'∧w'.ownsRow w.heap.size 3 size v' n news∧v'≠.slice none 0 0∧Below w.heap.size w w':=AnyE.slices_Clone Tryz.laysSlE041_f22 i0 z size bytes hi hz0 hz1 hz2 hzs hsz z23 b off n c news w hl hn hbig hc h1
end Go.Proofs
