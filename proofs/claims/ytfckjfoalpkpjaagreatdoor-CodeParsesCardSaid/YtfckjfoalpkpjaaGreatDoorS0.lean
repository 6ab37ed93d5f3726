import Derived.Shelf.Strings.Builder1
import Derived.Shelf.Strings.Builder2
import Derived.Shelf.Strings.BuilderF
import Derived.Shelf.Strings.BuilderK
import Derived.Shelf.Utf8.RuneCount
import Derived.Shelf.Strings.Builder2Cap
import Derived.Shelf.Strconv.Atoi
import Derived.Shelf.Strconv.Itoa0
import Derived.Shelf.Strconv.Itoa1
import Derived.Shelf.LaysM
import Derived.Shelf.Strconv.Itoa2
import Derived.Shelf.Strconv.Itoa3
import Derived.Shelf.Strconv.AtoiErrFast
import Derived.Shelf.Strconv.ParseIntEmpty
import Derived.Shelf.Strconv.AtoiFail
import Derived.Shelf.Strconv.Clone
import Derived.Shelf.Strconv.SyntaxError
import Derived.Shelf.LaysC
import Derived.Shelf.Strconv.ToError
import Derived.Shelf.Strconv.Lower
import Derived.Shelf.Strconv.ParseUint10
import Derived.Shelf.Strconv.ParseUint10Empty
import Derived.Shelf.Strconv.ParseUint10Any
import Derived.Shelf.Strconv.ParseInt10
import Derived.Shelf.Strconv.AtoiLong
import Derived.Shelf.Strconv.AtoiInnerAll
import Derived.Shelf.Strconv.RangeError
import Derived.Shelf.Strconv.ToErrorRange
import Derived.Shelf.Strconv.AtoiAll
import Derived.Shelf.Strconv.ErrVarAll
import Derived.Shelf.Strings.Search1
import Derived.Shelf.Strings.Search2
import Derived.Shelf.Strings.Search3
import Derived.Shelf.Strings.Count
import Derived.Shelf.Strings.Shaped
import Derived.Shelf.Strings.Prefix
import Derived.Shelf.Strings.Split
import Derived.Shelf.Strings.SplitShaped
import Derived.Shelf.Bits.Mul64
import Derived.Shelf.Strings.Repeat
import Derived.Shelf.Unicode.DecodeSlow
import Derived.Shelf.Strings.BuilderCap
import Derived.Test.YtfckjfoalpkpjaaGreatDoorProg
namespace Go.Proofs
open Go.Shelf
def Tryz.lays170_ren:Go.Shelf.Ren:=⟨fun|170=>44|n=>n,fun|70=>66|3=>3|0=>0|72=>69|37=>67|5=>5|n=>n,fun|n=>n⟩
theorem Tryz.lays170:Go.Proofs.Lays.n170 Tryz.prog Tryz.lays170_ren:={
  mixed:=by kernel_rfl
  f170:=Tryz.func44.trans (congrArg some (by kernel_rfl))
  t0:=Tryz.underlying0
  a0:=Tryz.isAgg0
  z0:=Tryz.sizeOf0
  v0:=Tryz.zeroValue0
  t3:=Tryz.underlying3
  a3:=Tryz.isAgg3
  z3:=Tryz.sizeOf3
  v3:=Tryz.zeroValue3
  t37:=Tryz.underlying67
  a37:=Tryz.isAgg67
  z37:=Tryz.sizeOf67
  v37:=Tryz.zeroValue67
  t70:=Tryz.underlying66
  a70:=Tryz.isAgg66
  z70:=Tryz.sizeOf66
  v70:=Tryz.zeroValue66
  t72:=Tryz.underlying69
  a72:=Tryz.isAgg69
  z72:=Tryz.sizeOf69
  v72:=Tryz.zeroValue69 }
def Tryz.lays169_ren:Go.Shelf.Ren:=⟨fun|169=>45|n=>n,fun|70=>66|9=>9|0=>0|72=>69|37=>67|127=>92|3=>3|5=>5|n=>n,fun|n=>n⟩
theorem Tryz.lays169:Go.Proofs.Lays.n169 Tryz.prog Tryz.lays169_ren:={
  mixed:=by kernel_rfl
  f169:=Tryz.func45.trans (congrArg some (by kernel_rfl))
  t0:=Tryz.underlying0
  a0:=Tryz.isAgg0
  z0:=Tryz.sizeOf0
  v0:=Tryz.zeroValue0
  t3:=Tryz.underlying3
  a3:=Tryz.isAgg3
  z3:=Tryz.sizeOf3
  v3:=Tryz.zeroValue3
  t9:=Tryz.underlying9
  a9:=Tryz.isAgg9
  z9:=Tryz.sizeOf9
  v9:=Tryz.zeroValue9
  t37:=Tryz.underlying67
  a37:=Tryz.isAgg67
  z37:=Tryz.sizeOf67
  v37:=Tryz.zeroValue67
  t70:=Tryz.underlying66
  a70:=Tryz.isAgg66
  z70:=Tryz.sizeOf66
  v70:=Tryz.zeroValue66
  t72:=Tryz.underlying69
  a72:=Tryz.isAgg69
  z72:=Tryz.sizeOf69
  v72:=Tryz.zeroValue69
  t127:=Tryz.underlying92
  a127:=Tryz.isAgg92
  z127:=Tryz.sizeOf92
  v127:=Tryz.zeroValue92 }
theorem Tryz.Builder_Extra_169:Builder.Extra Tryz.prog Tryz.lays169_ren:={
  sizeBuilder:=by kernel_rfl
  liesBuilder:=by kernel_rfl
  t5:=Tryz.underlying5
  a5:=Tryz.isAgg5
  z5:=Tryz.sizeOf5
  v5:=Tryz.zeroValue5
  infoByte:=by kernel_rfl
  cellsByte:=by kernel_rfl
  sizeByte:=by kernel_rfl
  neB5:=by decide }
open Go.RowKit in
theorem Tryz.Builder_Len_f (B b:Nat) (bs:List Value) (w:World) (h:Lib.IsBuilderF 69 5 B b bs w) :
    Calls Tryz.prog 44 #[.pointer (some ⟨b,0,none⟩)] w fun e w'=>e = .returned (.int .i64 bs.length)∧w'=w:=Any.Builder_Len_f Tryz.lays170 B b bs w h
open Go.RowKit in
theorem Tryz.Builder_String_any_k (B b:Nat) (l:List UInt8) (w:World) (h:Lib.IsBuilderF 69 5 B b (Lib.byteCells l) w) (hBw:B≤w.heap.size) :
    Calls Tryz.prog 45 #[.pointer (some ⟨b,0,none⟩)] w fun e w'=>e = .returned (.string ⟨l.toArray⟩)∧(Lib.IsBuilderF 69 5 B b (Lib.byteCells l) w'∧Below B w w'∧Lib.OthersKept 5 (some b) w w'):=Any.Builder_String_any_k Tryz.lays169 Tryz.Builder_Extra_169 B b l w h hBw
def Tryz.laysM171_ren:Go.Shelf.Ren:=⟨fun|171=>52|243=>76|246=>89|283=>100|284=>101|285=>102|286=>103|129=>116|317=>115|318=>117|319=>118|320=>119|337=>125|338=>126|n=>n,fun|3=>3|9=>9|2=>2|4=>4|171=>115|0=>0|53=>112|37=>67|5=>5|173=>118|212=>129|51=>109|20=>20|213=>130|46=>99|232=>147|233=>148|n=>n,fun|17=>1|18=>6|19=>7|n=>n⟩
theorem Tryz.laysM171:Go.Proofs.LaysM.n171 Tryz.prog Tryz.laysM171_ren:={
  mixed:=by kernel_rfl
  f129:=Tryz.func116.trans (congrArg some (by kernel_rfl))
  f171:=Tryz.func52.trans (congrArg some (by kernel_rfl))
  f243:=Tryz.func76.trans (congrArg some (by kernel_rfl))
  f246:=Tryz.func89.trans (congrArg some (by kernel_rfl))
  f283:=Tryz.func100.trans (congrArg some (by kernel_rfl))
  f284:=Tryz.func101.trans (congrArg some (by kernel_rfl))
  f285:=Tryz.func102.trans (congrArg some (by kernel_rfl))
  f286:=Tryz.func103.trans (congrArg some (by kernel_rfl))
  f317:=Tryz.func115.trans (congrArg some (by kernel_rfl))
  f318:=Tryz.func117.trans (congrArg some (by kernel_rfl))
  f319:=Tryz.func118.trans (congrArg some (by kernel_rfl))
  f320:=Tryz.func119.trans (congrArg some (by kernel_rfl))
  f337:=Tryz.func125.trans (congrArg some (by kernel_rfl))
  f338:=Tryz.func126.trans (congrArg some (by kernel_rfl))
  t0:=Tryz.underlying0
  a0:=Tryz.isAgg0
  z0:=Tryz.sizeOf0
  v0:=Tryz.zeroValue0
  t2:=Tryz.underlying2
  a2:=Tryz.isAgg2
  z2:=Tryz.sizeOf2
  v2:=Tryz.zeroValue2
  t3:=Tryz.underlying3
  a3:=Tryz.isAgg3
  z3:=Tryz.sizeOf3
  v3:=Tryz.zeroValue3
  t4:=Tryz.underlying4
  a4:=Tryz.isAgg4
  z4:=Tryz.sizeOf4
  v4:=Tryz.zeroValue4
  t5:=Tryz.underlying5
  a5:=Tryz.isAgg5
  z5:=Tryz.sizeOf5
  v5:=Tryz.zeroValue5
  t9:=Tryz.underlying9
  a9:=Tryz.isAgg9
  z9:=Tryz.sizeOf9
  v9:=Tryz.zeroValue9
  t20:=Tryz.underlying20
  a20:=Tryz.isAgg20
  z20:=Tryz.sizeOf20
  v20:=Tryz.zeroValue20
  t37:=Tryz.underlying67
  a37:=Tryz.isAgg67
  z37:=Tryz.sizeOf67
  v37:=Tryz.zeroValue67
  t46:=Tryz.underlying99
  a46:=Tryz.isAgg99
  z46:=Tryz.sizeOf99
  v46:=Tryz.zeroValue99
  t51:=Tryz.underlying109
  a51:=Tryz.isAgg109
  z51:=Tryz.sizeOf109
  v51:=Tryz.zeroValue109
  t53:=Tryz.underlying112
  a53:=Tryz.isAgg112
  z53:=Tryz.sizeOf112
  v53:=Tryz.zeroValue112
  t171:=Tryz.underlying115
  a171:=Tryz.isAgg115
  z171:=Tryz.sizeOf115
  v171:=Tryz.zeroValue115
  t173:=Tryz.underlying118
  a173:=Tryz.isAgg118
  z173:=Tryz.sizeOf118
  v173:=Tryz.zeroValue118
  t212:=Tryz.underlying129
  a212:=Tryz.isAgg129
  z212:=Tryz.sizeOf129
  v212:=Tryz.zeroValue129
  t213:=Tryz.underlying130
  a213:=Tryz.isAgg130
  z213:=Tryz.sizeOf130
  t232:=Tryz.underlying147
  a232:=Tryz.isAgg147
  z232:=Tryz.sizeOf147
  v232:=Tryz.zeroValue147
  t233:=Tryz.underlying148
  a233:=Tryz.isAgg148
  z233:=Tryz.sizeOf148
  v233:=Tryz.zeroValue148
  g17:=by kernel_rfl
  g18:=by kernel_rfl
  g19:=by kernel_rfl
  i0:=by kernel_rfl
  i2:=by kernel_rfl
  i3:=by kernel_rfl
  i4:=by kernel_rfl
  i5:=by kernel_rfl
  i9:=by kernel_rfl
  i20:=by kernel_rfl
  i37:=by kernel_rfl
  i46:=by kernel_rfl
  i51:=by kernel_rfl
  i53:=by kernel_rfl
  i171:=by kernel_rfl
  i173:=by kernel_rfl
  i212:=by kernel_rfl
  i232:=by kernel_rfl
  i233:=by kernel_rfl
  m17:=by kernel_rfl
  m18:=by kernel_rfl
  m19:=by kernel_rfl }
open Go.RowKit Go.Sort Go.Lib in
theorem Tryz.strconv_Itoa (n:Int) (h0 : -9223372036854775808≤n) (h1:n≤9223372036854775807) (w:World) (htab:Lib.TabIs Tryz.prog w "internal/strconv.uint64pow10" .u64 Lib.pow10Tab) :
    Calls Tryz.prog 52 #[.int .i64 n] w fun e w'=>e = .returned (.string ⟨(Lib.itoa n).toArray⟩) ∧ ∃ k os,w'=grow (w.drewN k) os:=Any.strconv_Itoa Tryz.laysM171 n h0 h1 w htab
open Go.RowKit Go.Sort Go.Lib in
def Tryz.laysC172_ren:Go.Shelf.Ren:=⟨fun|172=>84|244=>94|245=>95|247=>109|279=>110|280=>111|281=>112|282=>113|287=>122|316=>123|171=>52|205=>124|321=>127|322=>128|243=>76|246=>89|283=>100|284=>101|285=>102|286=>103|129=>116|317=>115|318=>117|319=>118|320=>119|337=>125|338=>126|n=>n,fun|9=>9|3=>3|75=>71|76=>72|4=>4|5=>5|167=>121|37=>67|0=>0|85=>122|2=>2|168=>124|53=>112|175=>137|46=>99|210=>140|127=>92|145=>146|143=>144|21=>21|171=>115|173=>118|212=>129|51=>109|20=>20|213=>130|232=>147|233=>148|80=>77|n=>n,fun|15=>4|16=>5|17=>1|18=>6|19=>7|n=>n⟩
theorem Tryz.laysC172:Go.Proofs.LaysC.n172 Tryz.prog Tryz.laysC172_ren:={
  mixed:=by kernel_rfl
  f129:=Tryz.func116.trans (congrArg some (by kernel_rfl))
  f171:=Tryz.func52.trans (congrArg some (by kernel_rfl))
  f172:=Tryz.func84.trans (congrArg some (by kernel_rfl))
  f205:=Tryz.func124.trans (congrArg some (by kernel_rfl))
  f243:=Tryz.func76.trans (congrArg some (by kernel_rfl))
  f244:=Tryz.func94.trans (congrArg some (by kernel_rfl))
  f245:=Tryz.func95.trans (congrArg some (by kernel_rfl))
  f246:=Tryz.func89.trans (congrArg some (by kernel_rfl))
  f247:=Tryz.func109.trans (congrArg some (by kernel_rfl))
  f279:=Tryz.func110.trans (congrArg some (by kernel_rfl))
  f280:=Tryz.func111.trans (congrArg some (by kernel_rfl))
  f281:=Tryz.func112.trans (congrArg some (by kernel_rfl))
  f282:=Tryz.func113.trans (congrArg some (by kernel_rfl))
  f283:=Tryz.func100.trans (congrArg some (by kernel_rfl))
  f284:=Tryz.func101.trans (congrArg some (by kernel_rfl))
  f285:=Tryz.func102.trans (congrArg some (by kernel_rfl))
  f286:=Tryz.func103.trans (congrArg some (by kernel_rfl))
  f287:=Tryz.func122.trans (congrArg some (by kernel_rfl))
  f316:=Tryz.func123.trans (congrArg some (by kernel_rfl))
  f317:=Tryz.func115.trans (congrArg some (by kernel_rfl))
  f318:=Tryz.func117.trans (congrArg some (by kernel_rfl))
  f319:=Tryz.func118.trans (congrArg some (by kernel_rfl))
  f320:=Tryz.func119.trans (congrArg some (by kernel_rfl))
  f321:=Tryz.func127.trans (congrArg some (by kernel_rfl))
  f322:=Tryz.func128.trans (congrArg some (by kernel_rfl))
  f337:=Tryz.func125.trans (congrArg some (by kernel_rfl))
  f338:=Tryz.func126.trans (congrArg some (by kernel_rfl))
  t0:=Tryz.underlying0
  a0:=Tryz.isAgg0
  z0:=Tryz.sizeOf0
  v0:=Tryz.zeroValue0
  t2:=Tryz.underlying2
  a2:=Tryz.isAgg2
  z2:=Tryz.sizeOf2
  v2:=Tryz.zeroValue2
  t3:=Tryz.underlying3
  a3:=Tryz.isAgg3
  z3:=Tryz.sizeOf3
  v3:=Tryz.zeroValue3
  t4:=Tryz.underlying4
  a4:=Tryz.isAgg4
  z4:=Tryz.sizeOf4
  v4:=Tryz.zeroValue4
  t5:=Tryz.underlying5
  a5:=Tryz.isAgg5
  z5:=Tryz.sizeOf5
  v5:=Tryz.zeroValue5
  t9:=Tryz.underlying9
  a9:=Tryz.isAgg9
  z9:=Tryz.sizeOf9
  v9:=Tryz.zeroValue9
  t20:=Tryz.underlying20
  a20:=Tryz.isAgg20
  z20:=Tryz.sizeOf20
  v20:=Tryz.zeroValue20
  t21:=Tryz.underlying21
  a21:=Tryz.isAgg21
  z21:=Tryz.sizeOf21
  v21:=Tryz.zeroValue21
  t37:=Tryz.underlying67
  a37:=Tryz.isAgg67
  z37:=Tryz.sizeOf67
  v37:=Tryz.zeroValue67
  t46:=Tryz.underlying99
  a46:=Tryz.isAgg99
  z46:=Tryz.sizeOf99
  v46:=Tryz.zeroValue99
  t51:=Tryz.underlying109
  a51:=Tryz.isAgg109
  z51:=Tryz.sizeOf109
  v51:=Tryz.zeroValue109
  t53:=Tryz.underlying112
  a53:=Tryz.isAgg112
  z53:=Tryz.sizeOf112
  v53:=Tryz.zeroValue112
  t75:=Tryz.underlying71
  a75:=Tryz.isAgg71
  z75:=Tryz.sizeOf71
  v75:=Tryz.zeroValue71
  t76:=Tryz.underlying72
  a76:=Tryz.isAgg72
  z76:=Tryz.sizeOf72
  v76:=Tryz.zeroValue72
  t85:=Tryz.underlying122
  a85:=Tryz.isAgg122
  z85:=Tryz.sizeOf122
  v85:=Tryz.zeroValue122
  t127:=Tryz.underlying92
  a127:=Tryz.isAgg92
  z127:=Tryz.sizeOf92
  v127:=Tryz.zeroValue92
  t143:=Tryz.underlying144
  a143:=Tryz.isAgg144
  z143:=Tryz.sizeOf144
  v143:=Tryz.zeroValue144
  t145:=Tryz.underlying146
  a145:=Tryz.isAgg146
  z145:=Tryz.sizeOf146
  v145:=Tryz.zeroValue146
  t167:=Tryz.underlying121
  a167:=Tryz.isAgg121
  z167:=Tryz.sizeOf121
  v167:=Tryz.zeroValue121
  t168:=Tryz.underlying124
  a168:=Tryz.isAgg124
  z168:=Tryz.sizeOf124
  v168:=Tryz.zeroValue124
  t171:=Tryz.underlying115
  a171:=Tryz.isAgg115
  z171:=Tryz.sizeOf115
  v171:=Tryz.zeroValue115
  t173:=Tryz.underlying118
  a173:=Tryz.isAgg118
  z173:=Tryz.sizeOf118
  v173:=Tryz.zeroValue118
  t175:=Tryz.underlying137
  a175:=Tryz.isAgg137
  z175:=Tryz.sizeOf137
  v175:=Tryz.zeroValue137
  t210:=Tryz.underlying140
  a210:=Tryz.isAgg140
  z210:=Tryz.sizeOf140
  v210:=Tryz.zeroValue140
  t212:=Tryz.underlying129
  a212:=Tryz.isAgg129
  z212:=Tryz.sizeOf129
  v212:=Tryz.zeroValue129
  t213:=Tryz.underlying130
  a213:=Tryz.isAgg130
  z213:=Tryz.sizeOf130
  t232:=Tryz.underlying147
  a232:=Tryz.isAgg147
  z232:=Tryz.sizeOf147
  v232:=Tryz.zeroValue147
  t233:=Tryz.underlying148
  a233:=Tryz.isAgg148
  z233:=Tryz.sizeOf148
  v233:=Tryz.zeroValue148
  g15:=by kernel_rfl
  g16:=by kernel_rfl
  g17:=by kernel_rfl
  g18:=by kernel_rfl
  g19:=by kernel_rfl
  t80:=Tryz.underlying77
  a80:=Tryz.isAgg77
  z80:=Tryz.sizeOf77
  v80:=Tryz.zeroValue77
  i0:=by kernel_rfl
  i2:=by kernel_rfl
  i3:=by kernel_rfl
  i4:=by kernel_rfl
  i5:=by kernel_rfl
  i9:=by kernel_rfl
  i20:=by kernel_rfl
  i21:=by kernel_rfl
  i37:=by kernel_rfl
  i46:=by kernel_rfl
  i51:=by kernel_rfl
  i53:=by kernel_rfl
  i75:=by kernel_rfl
  i76:=by kernel_rfl
  i80:=by kernel_rfl
  i85:=by kernel_rfl
  i127:=by kernel_rfl
  i143:=by kernel_rfl
  i145:=by kernel_rfl
  i167:=by kernel_rfl
  i168:=by kernel_rfl
  i171:=by kernel_rfl
  i173:=by kernel_rfl
  i175:=by kernel_rfl
  i210:=by kernel_rfl
  i212:=by kernel_rfl
  i232:=by kernel_rfl
  i233:=by kernel_rfl
  m15:=by kernel_rfl
  m16:=by kernel_rfl
  m17:=by kernel_rfl
  m18:=by kernel_rfl
  m19:=by kernel_rfl
  c0:=by kernel_rfl
  c2:=by kernel_rfl
  c3:=by kernel_rfl
  c4:=by kernel_rfl
  c5:=by kernel_rfl
  c9:=by kernel_rfl
  c20:=by kernel_rfl
  c21:=by kernel_rfl
  c37:=by kernel_rfl
  c46:=by kernel_rfl
  c51:=by kernel_rfl
  c53:=by kernel_rfl
  c75:=by kernel_rfl
  c76:=by kernel_rfl
  c80:=by kernel_rfl
  c85:=by kernel_rfl
  c127:=by kernel_rfl
  c143:=by kernel_rfl
  c145:=by kernel_rfl
  c167:=by kernel_rfl
  c168:=by kernel_rfl
  c171:=by kernel_rfl
  c173:=by kernel_rfl
  c175:=by kernel_rfl
  c210:=by kernel_rfl
  c212:=by kernel_rfl
  c213:=by kernel_rfl
  c232:=by kernel_rfl
  c233:=by kernel_rfl }
open Go.RowKit in
theorem Tryz.strconv_Atoi_ok (s:ByteArray) (hmax:s.size≤9223372036854775806) (v:Int) (h:Lib.atoiAll s.data.toList = .ok v) (w:World) :
    Calls Tryz.prog 84 #[.string s] w fun e w'=>e = .returned (.tuple #[.int .i64 v,.nilIface])∧(w'=w ∨ ∃ t,w'=Lib.bytesWorld w 5 t):=Any.strconv_Atoi_ok Tryz.laysC172 s hmax v h w
open Go.RowKit in
theorem Tryz.strconv_Atoi_syntax (s:ByteArray) (hlim:s.size≤281474976710656) (hno : ∀ v,Lib.atoiAll s.data.toList ≠ .ok v) (hnr:Lib.atoiAll s.data.toList ≠ .range) (ev:Value) (w:World) (hv:w.cell? ⟨4,0,none⟩=some ev) (hev:ev = .nilIface ∨ ∃ te pe,ev = .iface te pe) :
    Calls Tryz.prog 84 #[.string s] w fun e w' => ∃ N,e = .returned (.tuple #[.int .i64 (0),.iface 124 (.pointer (some ⟨N,0,none⟩))])∧w.heap.size≤N∧w'.heap[N]? = some (.cells #[.string ⟨#[65,116,111,105]⟩,.string s,ev] 140 (0,0))∧Below w.heap.size w w':=Any.strconv_Atoi_syntax Tryz.laysC172 s hlim (by revert hno hnr;generalize Lib.atoiAll s.data.toList=e;intro hno hnr;cases e<;>first|rfl|exact absurd rfl (hno _)|exact absurd rfl hnr) ev w hv hev
open Go.RowKit in
theorem Tryz.strconv_Atoi_range (s:ByteArray) (hlim:s.size≤281474976710656) (h:Lib.atoiAll s.data.toList = .range) (ev:Value) (w:World) (hv:w.cell? ⟨5,0,none⟩=some ev) (hev:ev = .nilIface ∨ ∃ te pe,ev = .iface te pe) :
    Calls Tryz.prog 84 #[.string s] w fun e w' => ∃ N,e = .returned (.tuple #[.int .i64 (Lib.atoiSat s.data.toList),.iface 124 (.pointer (some ⟨N,0,none⟩))])∧w.heap.size≤N∧w'.heap[N]? = some (.cells #[.string ⟨#[65,116,111,105]⟩,.string s,ev] 140 (0,0))∧Below w.heap.size w w':=Any.strconv_Atoi_range Tryz.laysC172 s hlim h ev w hv hev
def Tryz.lays146_ren:Go.Shelf.Ren:=⟨fun|146=>36|221=>66|268=>81|138=>82|143=>83|195=>90|197=>91|218=>92|219=>93|260=>104|217=>105|225=>106|224=>107|267=>108|266=>120|314=>121|n=>n,fun|9=>9|31=>36|3=>3|4=>4|0=>0|105=>105|21=>21|5=>5|46=>99|119=>132|139=>135|138=>134|146=>110|51=>109|n=>n,fun|1=>0|3=>2|4=>3|n=>n⟩
theorem Tryz.lays146:Go.Proofs.Lays.n146 Tryz.prog Tryz.lays146_ren:={
  mixed:=by kernel_rfl
  f138:=Tryz.func82.trans (congrArg some (by kernel_rfl))
  f143:=Tryz.func83.trans (congrArg some (by kernel_rfl))
  f146:=Tryz.func36.trans (congrArg some (by kernel_rfl))
  f195:=Tryz.func90.trans (congrArg some (by kernel_rfl))
  f197:=Tryz.func91.trans (congrArg some (by kernel_rfl))
  f217:=Tryz.func105.trans (congrArg some (by kernel_rfl))
  f218:=Tryz.func92.trans (congrArg some (by kernel_rfl))
  f219:=Tryz.func93.trans (congrArg some (by kernel_rfl))
  f221:=Tryz.func66.trans (congrArg some (by kernel_rfl))
  f224:=Tryz.func107.trans (congrArg some (by kernel_rfl))
  f225:=Tryz.func106.trans (congrArg some (by kernel_rfl))
  f260:=Tryz.func104.trans (congrArg some (by kernel_rfl))
  f266:=Tryz.func120.trans (congrArg some (by kernel_rfl))
  f267:=Tryz.func108.trans (congrArg some (by kernel_rfl))
  f268:=Tryz.func81.trans (congrArg some (by kernel_rfl))
  f314:=Tryz.func121.trans (congrArg some (by kernel_rfl))
  t0:=Tryz.underlying0
  a0:=Tryz.isAgg0
  z0:=Tryz.sizeOf0
  v0:=Tryz.zeroValue0
  t3:=Tryz.underlying3
  a3:=Tryz.isAgg3
  z3:=Tryz.sizeOf3
  v3:=Tryz.zeroValue3
  t4:=Tryz.underlying4
  a4:=Tryz.isAgg4
  z4:=Tryz.sizeOf4
  v4:=Tryz.zeroValue4
  t5:=Tryz.underlying5
  a5:=Tryz.isAgg5
  z5:=Tryz.sizeOf5
  v5:=Tryz.zeroValue5
  t9:=Tryz.underlying9
  a9:=Tryz.isAgg9
  z9:=Tryz.sizeOf9
  v9:=Tryz.zeroValue9
  t21:=Tryz.underlying21
  a21:=Tryz.isAgg21
  z21:=Tryz.sizeOf21
  v21:=Tryz.zeroValue21
  t31:=Tryz.underlying36
  a31:=Tryz.isAgg36
  z31:=Tryz.sizeOf36
  v31:=Tryz.zeroValue36
  t46:=Tryz.underlying99
  a46:=Tryz.isAgg99
  z46:=Tryz.sizeOf99
  v46:=Tryz.zeroValue99
  t51:=Tryz.underlying109
  a51:=Tryz.isAgg109
  z51:=Tryz.sizeOf109
  v51:=Tryz.zeroValue109
  t105:=Tryz.underlying105
  a105:=Tryz.isAgg105
  z105:=Tryz.sizeOf105
  v105:=Tryz.zeroValue105
  t119:=Tryz.underlying132
  a119:=Tryz.isAgg132
  z119:=Tryz.sizeOf132
  t138:=Tryz.underlying134
  a138:=Tryz.isAgg134
  z138:=Tryz.sizeOf134
  v138:=Tryz.zeroValue134
  t139:=Tryz.underlying135
  a139:=Tryz.isAgg135
  z139:=Tryz.sizeOf135
  v139:=Tryz.zeroValue135
  t146:=Tryz.underlying110
  a146:=Tryz.isAgg110
  z146:=Tryz.sizeOf110
  v146:=Tryz.zeroValue110
  g1:=by kernel_rfl
  g3:=by kernel_rfl
  g4:=by kernel_rfl }
open Go.RowKit Go.Lib in
theorem Tryz.strings_Split (s sep:ByteArray) (m:Int) (w:World) (hs:s.size<4294967281) (hm:w.cell? ⟨0,0,none⟩=some (.int .i64 m)) (h1:1≤sep.size) :
    Calls Tryz.prog 36 #[.string s,.string sep] w fun e w' =>
      e = .returned (.slice (some ⟨w.heap.size,0,none⟩) (Lib.countB s sep+1) (Lib.countB s sep+1))∧w'=w.alloc (.cells ((Lib.splitB sep 0 (Lib.countB s sep) s).map Value.string).toArray 9):=Any.strings_Split Tryz.lays146 (by kernel_rfl) s sep m w hs hm h1
def Tryz.lays105_ren:Go.Shelf.Ren:=⟨fun|105=>74|212=>86|99=>87|165=>88|166=>41|170=>44|169=>45|263=>96|264=>97|206=>98|240=>73|241=>99|276=>85|277=>114|n=>n,fun|9=>9|3=>3|4=>4|20=>20|0=>0|46=>99|109=>100|5=>5|72=>69|76=>72|51=>109|146=>110|53=>112|148=>113|70=>66|37=>67|75=>71|127=>92|164=>97|80=>77|n=>n,fun|n=>n⟩
theorem Tryz.lays105:Go.Proofs.Lays.n105 Tryz.prog Tryz.lays105_ren:={
  mixed:=by kernel_rfl
  f99:=Tryz.func87.trans (congrArg some (by kernel_rfl))
  f105:=Tryz.func74.trans (congrArg some (by kernel_rfl))
  f165:=Tryz.func88.trans (congrArg some (by kernel_rfl))
  f166:=Tryz.func41.trans (congrArg some (by kernel_rfl))
  f169:=Tryz.func45.trans (congrArg some (by kernel_rfl))
  f170:=Tryz.func44.trans (congrArg some (by kernel_rfl))
  f206:=Tryz.func98.trans (congrArg some (by kernel_rfl))
  f212:=Tryz.func86.trans (congrArg some (by kernel_rfl))
  f240:=Tryz.func73.trans (congrArg some (by kernel_rfl))
  f241:=Tryz.func99.trans (congrArg some (by kernel_rfl))
  f263:=Tryz.func96.trans (congrArg some (by kernel_rfl))
  f264:=Tryz.func97.trans (congrArg some (by kernel_rfl))
  f276:=Tryz.func85.trans (congrArg some (by kernel_rfl))
  f277:=Tryz.func114.trans (congrArg some (by kernel_rfl))
  t0:=Tryz.underlying0
  a0:=Tryz.isAgg0
  z0:=Tryz.sizeOf0
  v0:=Tryz.zeroValue0
  t3:=Tryz.underlying3
  a3:=Tryz.isAgg3
  z3:=Tryz.sizeOf3
  v3:=Tryz.zeroValue3
  t4:=Tryz.underlying4
  a4:=Tryz.isAgg4
  z4:=Tryz.sizeOf4
  v4:=Tryz.zeroValue4
  t5:=Tryz.underlying5
  a5:=Tryz.isAgg5
  z5:=Tryz.sizeOf5
  v5:=Tryz.zeroValue5
  t9:=Tryz.underlying9
  a9:=Tryz.isAgg9
  z9:=Tryz.sizeOf9
  v9:=Tryz.zeroValue9
  t20:=Tryz.underlying20
  a20:=Tryz.isAgg20
  z20:=Tryz.sizeOf20
  v20:=Tryz.zeroValue20
  t37:=Tryz.underlying67
  a37:=Tryz.isAgg67
  z37:=Tryz.sizeOf67
  v37:=Tryz.zeroValue67
  t46:=Tryz.underlying99
  a46:=Tryz.isAgg99
  z46:=Tryz.sizeOf99
  v46:=Tryz.zeroValue99
  t51:=Tryz.underlying109
  a51:=Tryz.isAgg109
  z51:=Tryz.sizeOf109
  v51:=Tryz.zeroValue109
  t53:=Tryz.underlying112
  a53:=Tryz.isAgg112
  z53:=Tryz.sizeOf112
  v53:=Tryz.zeroValue112
  t70:=Tryz.underlying66
  a70:=Tryz.isAgg66
  z70:=Tryz.sizeOf66
  v70:=Tryz.zeroValue66
  t72:=Tryz.underlying69
  a72:=Tryz.isAgg69
  z72:=Tryz.sizeOf69
  v72:=Tryz.zeroValue69
  t75:=Tryz.underlying71
  a75:=Tryz.isAgg71
  z75:=Tryz.sizeOf71
  v75:=Tryz.zeroValue71
  t76:=Tryz.underlying72
  a76:=Tryz.isAgg72
  z76:=Tryz.sizeOf72
  v76:=Tryz.zeroValue72
  t109:=Tryz.underlying100
  a109:=Tryz.isAgg100
  z109:=Tryz.sizeOf100
  v109:=Tryz.zeroValue100
  t127:=Tryz.underlying92
  a127:=Tryz.isAgg92
  z127:=Tryz.sizeOf92
  v127:=Tryz.zeroValue92
  t146:=Tryz.underlying110
  a146:=Tryz.isAgg110
  z146:=Tryz.sizeOf110
  v146:=Tryz.zeroValue110
  t148:=Tryz.underlying113
  a148:=Tryz.isAgg113
  z148:=Tryz.sizeOf113
  v148:=Tryz.zeroValue113
  t164:=Tryz.underlying97
  a164:=Tryz.isAgg97
  z164:=Tryz.sizeOf97
  v164:=Tryz.zeroValue97 }
theorem Tryz.Builder_Extra_105:Builder.Extra Tryz.prog Tryz.lays105_ren:={
  sizeBuilder:=by kernel_rfl
  liesBuilder:=by kernel_rfl
  t5:=Tryz.underlying5
  a5:=Tryz.isAgg5
  z5:=Tryz.sizeOf5
  v5:=Tryz.zeroValue5
  infoByte:=by kernel_rfl
  cellsByte:=by kernel_rfl
  sizeByte:=by kernel_rfl
  neB5:=by decide }
open Go.RowKit Go.Lib in
theorem Tryz.strings_Repeat (s:ByteArray) (c:Nat) (w:World) (hc:c≤9223372036854775807) (hlen:s.size * c≤140737488355328) :
    Calls Tryz.prog 74 #[.string s,.int .i64 c] w fun e w'=>e = .returned (.string ⟨(Lib.repeatL s.data.toList c).toArray⟩)∧Below w.heap.size w w':=Any.strings_Repeat Tryz.lays105 Tryz.Builder_Extra_105 s c w hc hlen
end Go.Proofs
