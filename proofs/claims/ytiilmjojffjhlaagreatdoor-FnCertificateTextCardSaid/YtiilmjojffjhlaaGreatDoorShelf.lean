/-
  DERIVED: THE SHELF's CONTRACTS AT THIS DUMP, IN PLAIN WORDS (tools/lay-plain.mjs out of 'TryzShelf.lean', which tools/lay-shelf.mjs wrote): THE SAME DECLARATIONS UNDER THE SAME NAMES: 'import', 'namespace', 'open', 'def', 'theorem' AND NOTHING ELSE: no command of the shelf's: FOR A HAND-IN. Each laying: the table of numbers ('.._ren') and one theorem, a field a fact of the dump's own or the kernel's comparison; each contract: ONE APPLICATION.
-/
import Derived.Shelf.Strings.Builder1
import Derived.Shelf.Strings.Builder2
import Derived.Shelf.Strings.OnBuilder
import Derived.Shelf.Strings.BuilderF
import Derived.Shelf.Strings.BuilderK
import Derived.Shelf.Utf8.RuneCount
import Derived.Shelf.Strconv.Atoi
import Derived.Shelf.Strconv.Itoa0
import Derived.Shelf.Strconv.Itoa1
import Derived.Shelf.LaysM
import Derived.Shelf.Strconv.Itoa2
import Derived.Shelf.Strconv.Itoa3
import Derived.Shelf.Strconv.AtoiErrFast
import Derived.Shelf.Strconv.ParseIntEmpty
import Derived.Shelf.Strconv.AtoiFail
import Derived.Shelf.Strconv.Clone
import Derived.Shelf.Strconv.SyntaxError
import Derived.Shelf.LaysC
import Derived.Shelf.Strconv.ToError
import Derived.Shelf.Strconv.Lower
import Derived.Shelf.Strconv.ParseUint10
import Derived.Shelf.Strconv.ParseUint10Empty
import Derived.Shelf.Strconv.ParseUint10Any
import Derived.Shelf.Strconv.ParseInt10
import Derived.Shelf.Strconv.AtoiLong
import Derived.Shelf.Strconv.AtoiInnerAll
import Derived.Shelf.Strconv.RangeError
import Derived.Shelf.Strconv.ToErrorRange
import Derived.Shelf.Strconv.AtoiAll
import Derived.Shelf.Strconv.ErrVarAll
import Derived.Shelf.Strings.Search1
import Derived.Shelf.Strings.Search2
import Derived.Shelf.Strings.Search3
import Derived.Shelf.Strings.Count
import Derived.Shelf.Strings.Shaped
import Derived.Shelf.Strings.Split
import Derived.Shelf.Strings.SplitShaped
import Derived.Shelf.Unicode.Decode
import Derived.Shelf.Strings.RuneCount
import Derived.Shelf.Strings.Explode
import Derived.Shelf.Unicode.DecodeSlow
import Derived.Shelf.Unicode.DecodeAny
import Derived.Shelf.Slices.Equal
import Derived.Ground.Names2Prog
import Derived.Shelf.Slices.Clone
import Derived.Ground.SlgnProg
import Derived.Shelf.SlicesE.Clone
import Derived.Test.YtiilmjojffjhlaaGreatDoorProg
namespace Go.Proofs
open Go.Shelf
def Tryz.lays169_ren:Go.Shelf.Ren:=⟨fun | 169=>45 | n=>n,fun | 70=>62 | 9=>9 | 0=>0 | 72=>64 | 37=>32 | 127=>94 | 3=>3 | 5=>5 | n=>n,fun | n=>n⟩
theorem Tryz.lays169:Go.Proofs.Lays.n169 Tryz.prog Tryz.lays169_ren:={
  mixed:=by kernel_rfl
  f169:=Tryz.func45.trans (congrArg some (by kernel_rfl))
  t0:=Tryz.underlying0
  a0:=Tryz.isAgg0
  z0:=Tryz.sizeOf0
  v0:=Tryz.zeroValue0
  t3:=Tryz.underlying3
  a3:=Tryz.isAgg3
  z3:=Tryz.sizeOf3
  v3:=Tryz.zeroValue3
  t9:=Tryz.underlying9
  a9:=Tryz.isAgg9
  z9:=Tryz.sizeOf9
  v9:=Tryz.zeroValue9
  t37:=Tryz.underlying32
  a37:=Tryz.isAgg32
  z37:=Tryz.sizeOf32
  v37:=Tryz.zeroValue32
  t70:=Tryz.underlying62
  a70:=Tryz.isAgg62
  z70:=Tryz.sizeOf62
  v70:=Tryz.zeroValue62
  t72:=Tryz.underlying64
  a72:=Tryz.isAgg64
  z72:=Tryz.sizeOf64
  v72:=Tryz.zeroValue64
  t127:=Tryz.underlying94
  a127:=Tryz.isAgg94
  z127:=Tryz.sizeOf94
  v127:=Tryz.zeroValue94 }
theorem Tryz.Builder_Extra_169:Builder.Extra Tryz.prog Tryz.lays169_ren:={
  sizeBuilder:=by kernel_rfl
  liesBuilder:=by kernel_rfl
  t5:=Tryz.underlying5
  a5:=Tryz.isAgg5
  z5:=Tryz.sizeOf5
  v5:=Tryz.zeroValue5
  infoByte:=by kernel_rfl
  cellsByte:=by kernel_rfl
  sizeByte:=by kernel_rfl
  neB5:=by decide }
open Go.RowKit in
theorem Tryz.Builder_String_any (B b:Nat) (l:List UInt8) (w:World) (h:Lib.IsBuilder 64 5 B b (Lib.byteCells l) w) (hBw:B ≤ w.heap.size) :
    Calls Tryz.prog 45 #[.pointer (some ⟨b,0,none⟩)] w fun e w'=>e = .returned (.string ⟨l.toArray⟩) ∧ Below B w w':=Any.Builder_String_any Tryz.lays169 Tryz.Builder_Extra_169 B b l w h hBw
def Tryz.laysM171_ren:Go.Shelf.Ren:=⟨fun | 171=>44 | 243=>71 | 246=>94 | 283=>122 | 284=>123 | 285=>124 | 286=>125 | 129=>162 | 317=>161 | 318=>163 | 319=>164 | 320=>165 | 337=>187 | 338=>188 | n=>n,fun | 3=>3 | 9=>9 | 2=>2 | 4=>4 | 171=>156 | 0=>0 | 53=>157 | 37=>32 | 5=>5 | 173=>160 | 212=>199 | 51=>200 | 20=>20 | 213=>201 | 46=>135 | 232=>247 | 233=>248 | n=>n,fun | 17=>3 | 18=>6 | 19=>7 | n=>n⟩
theorem Tryz.laysM171:Go.Proofs.LaysM.n171 Tryz.prog Tryz.laysM171_ren:={
  mixed:=by kernel_rfl
  f129:=Tryz.func162.trans (congrArg some (by kernel_rfl))
  f171:=Tryz.func44.trans (congrArg some (by kernel_rfl))
  f243:=Tryz.func71.trans (congrArg some (by kernel_rfl))
  f246:=Tryz.func94.trans (congrArg some (by kernel_rfl))
  f283:=Tryz.func122.trans (congrArg some (by kernel_rfl))
  f284:=Tryz.func123.trans (congrArg some (by kernel_rfl))
  f285:=Tryz.func124.trans (congrArg some (by kernel_rfl))
  f286:=Tryz.func125.trans (congrArg some (by kernel_rfl))
  f317:=Tryz.func161.trans (congrArg some (by kernel_rfl))
  f318:=Tryz.func163.trans (congrArg some (by kernel_rfl))
  f319:=Tryz.func164.trans (congrArg some (by kernel_rfl))
  f320:=Tryz.func165.trans (congrArg some (by kernel_rfl))
  f337:=Tryz.func187.trans (congrArg some (by kernel_rfl))
  f338:=Tryz.func188.trans (congrArg some (by kernel_rfl))
  t0:=Tryz.underlying0
  a0:=Tryz.isAgg0
  z0:=Tryz.sizeOf0
  v0:=Tryz.zeroValue0
  t2:=Tryz.underlying2
  a2:=Tryz.isAgg2
  z2:=Tryz.sizeOf2
  v2:=Tryz.zeroValue2
  t3:=Tryz.underlying3
  a3:=Tryz.isAgg3
  z3:=Tryz.sizeOf3
  v3:=Tryz.zeroValue3
  t4:=Tryz.underlying4
  a4:=Tryz.isAgg4
  z4:=Tryz.sizeOf4
  v4:=Tryz.zeroValue4
  t5:=Tryz.underlying5
  a5:=Tryz.isAgg5
  z5:=Tryz.sizeOf5
  v5:=Tryz.zeroValue5
  t9:=Tryz.underlying9
  a9:=Tryz.isAgg9
  z9:=Tryz.sizeOf9
  v9:=Tryz.zeroValue9
  t20:=Tryz.underlying20
  a20:=Tryz.isAgg20
  z20:=Tryz.sizeOf20
  v20:=Tryz.zeroValue20
  t37:=Tryz.underlying32
  a37:=Tryz.isAgg32
  z37:=Tryz.sizeOf32
  v37:=Tryz.zeroValue32
  t46:=Tryz.underlying135
  a46:=Tryz.isAgg135
  z46:=Tryz.sizeOf135
  v46:=Tryz.zeroValue135
  t51:=Tryz.underlying200
  a51:=Tryz.isAgg200
  z51:=Tryz.sizeOf200
  v51:=Tryz.zeroValue200
  t53:=Tryz.underlying157
  a53:=Tryz.isAgg157
  z53:=Tryz.sizeOf157
  v53:=Tryz.zeroValue157
  t171:=Tryz.underlying156
  a171:=Tryz.isAgg156
  z171:=Tryz.sizeOf156
  v171:=Tryz.zeroValue156
  t173:=Tryz.underlying160
  a173:=Tryz.isAgg160
  z173:=Tryz.sizeOf160
  v173:=Tryz.zeroValue160
  t212:=Tryz.underlying199
  a212:=Tryz.isAgg199
  z212:=Tryz.sizeOf199
  v212:=Tryz.zeroValue199
  t213:=Tryz.underlying201
  a213:=Tryz.isAgg201
  z213:=Tryz.sizeOf201
  t232:=Tryz.underlying247
  a232:=Tryz.isAgg247
  z232:=Tryz.sizeOf247
  v232:=Tryz.zeroValue247
  t233:=Tryz.underlying248
  a233:=Tryz.isAgg248
  z233:=Tryz.sizeOf248
  v233:=Tryz.zeroValue248
  g17:=by kernel_rfl
  g18:=by kernel_rfl
  g19:=by kernel_rfl
  i0:=by kernel_rfl
  i2:=by kernel_rfl
  i3:=by kernel_rfl
  i4:=by kernel_rfl
  i5:=by kernel_rfl
  i9:=by kernel_rfl
  i20:=by kernel_rfl
  i37:=by kernel_rfl
  i46:=by kernel_rfl
  i51:=by kernel_rfl
  i53:=by kernel_rfl
  i171:=by kernel_rfl
  i173:=by kernel_rfl
  i212:=by kernel_rfl
  i232:=by kernel_rfl
  i233:=by kernel_rfl
  m17:=by kernel_rfl
  m18:=by kernel_rfl
  m19:=by kernel_rfl }
open Go.RowKit Go.Sort Go.Lib in
theorem Tryz.strconv_Itoa (n:Int) (h0:-9223372036854775808 ≤ n) (h1:n ≤ 9223372036854775807) (w:World) (htab:Lib.TabIs Tryz.prog w "internal/strconv.uint64pow10" .u64 Lib.pow10Tab) :
    Calls Tryz.prog 44 #[.int .i64 n] w fun e w'=>e = .returned (.string ⟨(Lib.itoa n).toArray⟩) ∧ ∃ k os,w' = grow (w.drewN k) os:=Any.strconv_Itoa Tryz.laysM171 n h0 h1 w htab
def Tryz.laysC172_ren:Go.Shelf.Ren:=⟨fun | 172=>64 | 244=>87 | 245=>88 | 247=>117 | 279=>118 | 280=>119 | 281=>120 | 282=>121 | 287=>158 | 316=>159 | 171=>44 | 205=>160 | 321=>185 | 322=>186 | 243=>71 | 246=>94 | 283=>122 | 284=>123 | 285=>124 | 286=>125 | 129=>162 | 317=>161 | 318=>163 | 319=>164 | 320=>165 | 337=>187 | 338=>188 | n=>n,fun | 9=>9 | 3=>3 | 75=>66 | 76=>67 | 4=>4 | 5=>5 | 167=>150 | 37=>32 | 0=>0 | 85=>151 | 2=>2 | 168=>153 | 53=>157 | 175=>192 | 46=>135 | 210=>196 | 127=>94 | 145=>236 | 143=>234 | 21=>21 | 171=>156 | 173=>160 | 212=>199 | 51=>200 | 20=>20 | 213=>201 | 232=>247 | 233=>248 | 80=>70 | n=>n,fun | 15=>1 | 16=>2 | 17=>3 | 18=>6 | 19=>7 | n=>n⟩
theorem Tryz.laysC172:Go.Proofs.LaysC.n172 Tryz.prog Tryz.laysC172_ren:={
  mixed:=by kernel_rfl
  f129:=Tryz.func162.trans (congrArg some (by kernel_rfl))
  f171:=Tryz.func44.trans (congrArg some (by kernel_rfl))
  f172:=Tryz.func64.trans (congrArg some (by kernel_rfl))
  f205:=Tryz.func160.trans (congrArg some (by kernel_rfl))
  f243:=Tryz.func71.trans (congrArg some (by kernel_rfl))
  f244:=Tryz.func87.trans (congrArg some (by kernel_rfl))
  f245:=Tryz.func88.trans (congrArg some (by kernel_rfl))
  f246:=Tryz.func94.trans (congrArg some (by kernel_rfl))
  f247:=Tryz.func117.trans (congrArg some (by kernel_rfl))
  f279:=Tryz.func118.trans (congrArg some (by kernel_rfl))
  f280:=Tryz.func119.trans (congrArg some (by kernel_rfl))
  f281:=Tryz.func120.trans (congrArg some (by kernel_rfl))
  f282:=Tryz.func121.trans (congrArg some (by kernel_rfl))
  f283:=Tryz.func122.trans (congrArg some (by kernel_rfl))
  f284:=Tryz.func123.trans (congrArg some (by kernel_rfl))
  f285:=Tryz.func124.trans (congrArg some (by kernel_rfl))
  f286:=Tryz.func125.trans (congrArg some (by kernel_rfl))
  f287:=Tryz.func158.trans (congrArg some (by kernel_rfl))
  f316:=Tryz.func159.trans (congrArg some (by kernel_rfl))
  f317:=Tryz.func161.trans (congrArg some (by kernel_rfl))
  f318:=Tryz.func163.trans (congrArg some (by kernel_rfl))
  f319:=Tryz.func164.trans (congrArg some (by kernel_rfl))
  f320:=Tryz.func165.trans (congrArg some (by kernel_rfl))
  f321:=Tryz.func185.trans (congrArg some (by kernel_rfl))
  f322:=Tryz.func186.trans (congrArg some (by kernel_rfl))
  f337:=Tryz.func187.trans (congrArg some (by kernel_rfl))
  f338:=Tryz.func188.trans (congrArg some (by kernel_rfl))
  t0:=Tryz.underlying0
  a0:=Tryz.isAgg0
  z0:=Tryz.sizeOf0
  v0:=Tryz.zeroValue0
  t2:=Tryz.underlying2
  a2:=Tryz.isAgg2
  z2:=Tryz.sizeOf2
  v2:=Tryz.zeroValue2
  t3:=Tryz.underlying3
  a3:=Tryz.isAgg3
  z3:=Tryz.sizeOf3
  v3:=Tryz.zeroValue3
  t4:=Tryz.underlying4
  a4:=Tryz.isAgg4
  z4:=Tryz.sizeOf4
  v4:=Tryz.zeroValue4
  t5:=Tryz.underlying5
  a5:=Tryz.isAgg5
  z5:=Tryz.sizeOf5
  v5:=Tryz.zeroValue5
  t9:=Tryz.underlying9
  a9:=Tryz.isAgg9
  z9:=Tryz.sizeOf9
  v9:=Tryz.zeroValue9
  t20:=Tryz.underlying20
  a20:=Tryz.isAgg20
  z20:=Tryz.sizeOf20
  v20:=Tryz.zeroValue20
  t21:=Tryz.underlying21
  a21:=Tryz.isAgg21
  z21:=Tryz.sizeOf21
  v21:=Tryz.zeroValue21
  t37:=Tryz.underlying32
  a37:=Tryz.isAgg32
  z37:=Tryz.sizeOf32
  v37:=Tryz.zeroValue32
  t46:=Tryz.underlying135
  a46:=Tryz.isAgg135
  z46:=Tryz.sizeOf135
  v46:=Tryz.zeroValue135
  t51:=Tryz.underlying200
  a51:=Tryz.isAgg200
  z51:=Tryz.sizeOf200
  v51:=Tryz.zeroValue200
  t53:=Tryz.underlying157
  a53:=Tryz.isAgg157
  z53:=Tryz.sizeOf157
  v53:=Tryz.zeroValue157
  t75:=Tryz.underlying66
  a75:=Tryz.isAgg66
  z75:=Tryz.sizeOf66
  v75:=Tryz.zeroValue66
  t76:=Tryz.underlying67
  a76:=Tryz.isAgg67
  z76:=Tryz.sizeOf67
  v76:=Tryz.zeroValue67
  t85:=Tryz.underlying151
  a85:=Tryz.isAgg151
  z85:=Tryz.sizeOf151
  v85:=Tryz.zeroValue151
  t127:=Tryz.underlying94
  a127:=Tryz.isAgg94
  z127:=Tryz.sizeOf94
  v127:=Tryz.zeroValue94
  t143:=Tryz.underlying234
  a143:=Tryz.isAgg234
  z143:=Tryz.sizeOf234
  v143:=Tryz.zeroValue234
  t145:=Tryz.underlying236
  a145:=Tryz.isAgg236
  z145:=Tryz.sizeOf236
  v145:=Tryz.zeroValue236
  t167:=Tryz.underlying150
  a167:=Tryz.isAgg150
  z167:=Tryz.sizeOf150
  v167:=Tryz.zeroValue150
  t168:=Tryz.underlying153
  a168:=Tryz.isAgg153
  z168:=Tryz.sizeOf153
  v168:=Tryz.zeroValue153
  t171:=Tryz.underlying156
  a171:=Tryz.isAgg156
  z171:=Tryz.sizeOf156
  v171:=Tryz.zeroValue156
  t173:=Tryz.underlying160
  a173:=Tryz.isAgg160
  z173:=Tryz.sizeOf160
  v173:=Tryz.zeroValue160
  t175:=Tryz.underlying192
  a175:=Tryz.isAgg192
  z175:=Tryz.sizeOf192
  v175:=Tryz.zeroValue192
  t210:=Tryz.underlying196
  a210:=Tryz.isAgg196
  z210:=Tryz.sizeOf196
  v210:=Tryz.zeroValue196
  t212:=Tryz.underlying199
  a212:=Tryz.isAgg199
  z212:=Tryz.sizeOf199
  v212:=Tryz.zeroValue199
  t213:=Tryz.underlying201
  a213:=Tryz.isAgg201
  z213:=Tryz.sizeOf201
  t232:=Tryz.underlying247
  a232:=Tryz.isAgg247
  z232:=Tryz.sizeOf247
  v232:=Tryz.zeroValue247
  t233:=Tryz.underlying248
  a233:=Tryz.isAgg248
  z233:=Tryz.sizeOf248
  v233:=Tryz.zeroValue248
  g15:=by kernel_rfl
  g16:=by kernel_rfl
  g17:=by kernel_rfl
  g18:=by kernel_rfl
  g19:=by kernel_rfl
  t80:=Tryz.underlying70
  a80:=Tryz.isAgg70
  z80:=Tryz.sizeOf70
  v80:=Tryz.zeroValue70
  i0:=by kernel_rfl
  i2:=by kernel_rfl
  i3:=by kernel_rfl
  i4:=by kernel_rfl
  i5:=by kernel_rfl
  i9:=by kernel_rfl
  i20:=by kernel_rfl
  i21:=by kernel_rfl
  i37:=by kernel_rfl
  i46:=by kernel_rfl
  i51:=by kernel_rfl
  i53:=by kernel_rfl
  i75:=by kernel_rfl
  i76:=by kernel_rfl
  i80:=by kernel_rfl
  i85:=by kernel_rfl
  i127:=by kernel_rfl
  i143:=by kernel_rfl
  i145:=by kernel_rfl
  i167:=by kernel_rfl
  i168:=by kernel_rfl
  i171:=by kernel_rfl
  i173:=by kernel_rfl
  i175:=by kernel_rfl
  i210:=by kernel_rfl
  i212:=by kernel_rfl
  i232:=by kernel_rfl
  i233:=by kernel_rfl
  m15:=by kernel_rfl
  m16:=by kernel_rfl
  m17:=by kernel_rfl
  m18:=by kernel_rfl
  m19:=by kernel_rfl
  c0:=by kernel_rfl
  c2:=by kernel_rfl
  c3:=by kernel_rfl
  c4:=by kernel_rfl
  c5:=by kernel_rfl
  c9:=by kernel_rfl
  c20:=by kernel_rfl
  c21:=by kernel_rfl
  c37:=by kernel_rfl
  c46:=by kernel_rfl
  c51:=by kernel_rfl
  c53:=by kernel_rfl
  c75:=by kernel_rfl
  c76:=by kernel_rfl
  c80:=by kernel_rfl
  c85:=by kernel_rfl
  c127:=by kernel_rfl
  c143:=by kernel_rfl
  c145:=by kernel_rfl
  c167:=by kernel_rfl
  c168:=by kernel_rfl
  c171:=by kernel_rfl
  c173:=by kernel_rfl
  c175:=by kernel_rfl
  c210:=by kernel_rfl
  c212:=by kernel_rfl
  c213:=by kernel_rfl
  c232:=by kernel_rfl
  c233:=by kernel_rfl }
open Go.RowKit in
theorem Tryz.strconv_Atoi_ok (s:ByteArray) (hmax:s.size ≤ 9223372036854775806) (v:Int) (h:Lib.atoiAll s.data.toList = .ok v) (w:World) :
    Calls Tryz.prog 64 #[.string s] w fun e w'=>e = .returned (.tuple #[.int .i64 v,.nilIface]) ∧ (w' = w ∨ ∃ t,w' = Lib.bytesWorld w 5 t):=Any.strconv_Atoi_ok Tryz.laysC172 s hmax v h w
open Go.RowKit in
theorem Tryz.strconv_Atoi_syntax_var (s:ByteArray) (hlim:s.size ≤ 281474976710656) (h:Lib.atoiAll s.data.toList = Lib.atoiAll []) (tp:TypeId) (p:Value) (w:World) (hvar:w.var? Tryz.prog "strconv.ErrSyntax" = some #[.iface tp p]) :
    Calls Tryz.prog 64 #[.string s] w fun e w'=>∃ N,e = .returned (.tuple #[.int .i64 0,.iface 153 (.pointer (some ⟨N,0,none⟩))]) ∧ w.heap.size ≤ N ∧ w'.heap[N]? = some (.cells #[.string ⟨#[65,116,111,105]⟩,.string s,.iface tp p] 196 (0,0)) ∧ Below w.heap.size w w':=Any.strconv_Atoi_syntax_var Tryz.laysC172 s hlim h tp p w hvar
open Go.RowKit in
theorem Tryz.strconv_Atoi_range_var (s:ByteArray) (hlim:s.size ≤ 281474976710656) (h:Lib.atoiAll s.data.toList = .range) (tp:TypeId) (p:Value) (w:World) (hvar:w.var? Tryz.prog "strconv.ErrRange" = some #[.iface tp p]) :
    Calls Tryz.prog 64 #[.string s] w fun e w'=>∃ N,e = .returned (.tuple #[.int .i64 (Lib.atoiSat s.data.toList),.iface 153 (.pointer (some ⟨N,0,none⟩))]) ∧ w.heap.size ≤ N ∧ w'.heap[N]? = some (.cells #[.string ⟨#[65,116,111,105]⟩,.string s,.iface tp p] 196 (0,0)) ∧ Below w.heap.size w w':=Any.strconv_Atoi_range_var Tryz.laysC172 s hlim h tp p w hvar
def Tryz.lays146_ren:Go.Shelf.Ren:=⟨fun | 146=>27 | 221=>62 | 268=>83 | 138=>84 | 143=>85 | 195=>113 | 197=>114 | 218=>115 | 219=>116 | 260=>153 | 217=>154 | 225=>155 | 224=>156 | 267=>157 | 266=>183 | 314=>184 | n=>n,fun | 9=>9 | 31=>45 | 3=>3 | 4=>4 | 0=>0 | 105=>147 | 21=>21 | 5=>5 | 46=>135 | 119=>227 | 139=>230 | 138=>229 | 146=>231 | 51=>200 | n=>n,fun | 1=>0 | 3=>4 | 4=>5 | n=>n⟩
theorem Tryz.lays146:Go.Proofs.Lays.n146 Tryz.prog Tryz.lays146_ren:={
  mixed:=by kernel_rfl
  f138:=Tryz.func84.trans (congrArg some (by kernel_rfl))
  f143:=Tryz.func85.trans (congrArg some (by kernel_rfl))
  f146:=Tryz.func27.trans (congrArg some (by kernel_rfl))
  f195:=Tryz.func113.trans (congrArg some (by kernel_rfl))
  f197:=Tryz.func114.trans (congrArg some (by kernel_rfl))
  f217:=Tryz.func154.trans (congrArg some (by kernel_rfl))
  f218:=Tryz.func115.trans (congrArg some (by kernel_rfl))
  f219:=Tryz.func116.trans (congrArg some (by kernel_rfl))
  f221:=Tryz.func62.trans (congrArg some (by kernel_rfl))
  f224:=Tryz.func156.trans (congrArg some (by kernel_rfl))
  f225:=Tryz.func155.trans (congrArg some (by kernel_rfl))
  f260:=Tryz.func153.trans (congrArg some (by kernel_rfl))
  f266:=Tryz.func183.trans (congrArg some (by kernel_rfl))
  f267:=Tryz.func157.trans (congrArg some (by kernel_rfl))
  f268:=Tryz.func83.trans (congrArg some (by kernel_rfl))
  f314:=Tryz.func184.trans (congrArg some (by kernel_rfl))
  t0:=Tryz.underlying0
  a0:=Tryz.isAgg0
  z0:=Tryz.sizeOf0
  v0:=Tryz.zeroValue0
  t3:=Tryz.underlying3
  a3:=Tryz.isAgg3
  z3:=Tryz.sizeOf3
  v3:=Tryz.zeroValue3
  t4:=Tryz.underlying4
  a4:=Tryz.isAgg4
  z4:=Tryz.sizeOf4
  v4:=Tryz.zeroValue4
  t5:=Tryz.underlying5
  a5:=Tryz.isAgg5
  z5:=Tryz.sizeOf5
  v5:=Tryz.zeroValue5
  t9:=Tryz.underlying9
  a9:=Tryz.isAgg9
  z9:=Tryz.sizeOf9
  v9:=Tryz.zeroValue9
  t21:=Tryz.underlying21
  a21:=Tryz.isAgg21
  z21:=Tryz.sizeOf21
  v21:=Tryz.zeroValue21
  t31:=Tryz.underlying45
  a31:=Tryz.isAgg45
  z31:=Tryz.sizeOf45
  v31:=Tryz.zeroValue45
  t46:=Tryz.underlying135
  a46:=Tryz.isAgg135
  z46:=Tryz.sizeOf135
  v46:=Tryz.zeroValue135
  t51:=Tryz.underlying200
  a51:=Tryz.isAgg200
  z51:=Tryz.sizeOf200
  v51:=Tryz.zeroValue200
  t105:=Tryz.underlying147
  a105:=Tryz.isAgg147
  z105:=Tryz.sizeOf147
  v105:=Tryz.zeroValue147
  t119:=Tryz.underlying227
  a119:=Tryz.isAgg227
  z119:=Tryz.sizeOf227
  t138:=Tryz.underlying229
  a138:=Tryz.isAgg229
  z138:=Tryz.sizeOf229
  v138:=Tryz.zeroValue229
  t139:=Tryz.underlying230
  a139:=Tryz.isAgg230
  z139:=Tryz.sizeOf230
  v139:=Tryz.zeroValue230
  t146:=Tryz.underlying231
  a146:=Tryz.isAgg231
  z146:=Tryz.sizeOf231
  v146:=Tryz.zeroValue231
  g1:=by kernel_rfl
  g3:=by kernel_rfl
  g4:=by kernel_rfl }
open Go.RowKit Go.Lib in
theorem Tryz.strings_Split (s sep:ByteArray) (m:Int) (w:World) (hs:s.size < 4294967281) (hm:w.cell? ⟨0,0,none⟩ = some (.int .i64 m)) (h1:1 ≤ sep.size) :
    Calls Tryz.prog 27 #[.string s,.string sep] w fun e w' =>
      e = .returned (.slice (some ⟨w.heap.size,0,none⟩) (Lib.countB s sep + 1) (Lib.countB s sep + 1)) ∧ w' = w.alloc (.cells ((Lib.splitB sep 0 (Lib.countB s sep) s).map Value.string).toArray 9):=Any.strings_Split Tryz.lays146 (by kernel_rfl) s sep m w hs hm h1
def Tryz.laysM146_ren:Go.Shelf.Ren:=⟨fun | 146=>27 | 221=>62 | 268=>83 | 138=>84 | 143=>85 | 195=>113 | 197=>114 | 218=>115 | 219=>116 | 260=>153 | 217=>154 | 225=>155 | 224=>156 | 267=>157 | 266=>183 | 314=>184 | n=>n,fun | 9=>9 | 31=>45 | 3=>3 | 4=>4 | 0=>0 | 105=>147 | 21=>21 | 5=>5 | 46=>135 | 119=>227 | 139=>230 | 138=>229 | 146=>231 | 51=>200 | n=>n,fun | 1=>0 | 3=>4 | 4=>5 | n=>n⟩
theorem Tryz.laysM146:Go.Proofs.LaysM.n146 Tryz.prog Tryz.laysM146_ren:={
  mixed:=by kernel_rfl
  f138:=Tryz.func84.trans (congrArg some (by kernel_rfl))
  f143:=Tryz.func85.trans (congrArg some (by kernel_rfl))
  f146:=Tryz.func27.trans (congrArg some (by kernel_rfl))
  f195:=Tryz.func113.trans (congrArg some (by kernel_rfl))
  f197:=Tryz.func114.trans (congrArg some (by kernel_rfl))
  f217:=Tryz.func154.trans (congrArg some (by kernel_rfl))
  f218:=Tryz.func115.trans (congrArg some (by kernel_rfl))
  f219:=Tryz.func116.trans (congrArg some (by kernel_rfl))
  f221:=Tryz.func62.trans (congrArg some (by kernel_rfl))
  f224:=Tryz.func156.trans (congrArg some (by kernel_rfl))
  f225:=Tryz.func155.trans (congrArg some (by kernel_rfl))
  f260:=Tryz.func153.trans (congrArg some (by kernel_rfl))
  f266:=Tryz.func183.trans (congrArg some (by kernel_rfl))
  f267:=Tryz.func157.trans (congrArg some (by kernel_rfl))
  f268:=Tryz.func83.trans (congrArg some (by kernel_rfl))
  f314:=Tryz.func184.trans (congrArg some (by kernel_rfl))
  t0:=Tryz.underlying0
  a0:=Tryz.isAgg0
  z0:=Tryz.sizeOf0
  v0:=Tryz.zeroValue0
  t3:=Tryz.underlying3
  a3:=Tryz.isAgg3
  z3:=Tryz.sizeOf3
  v3:=Tryz.zeroValue3
  t4:=Tryz.underlying4
  a4:=Tryz.isAgg4
  z4:=Tryz.sizeOf4
  v4:=Tryz.zeroValue4
  t5:=Tryz.underlying5
  a5:=Tryz.isAgg5
  z5:=Tryz.sizeOf5
  v5:=Tryz.zeroValue5
  t9:=Tryz.underlying9
  a9:=Tryz.isAgg9
  z9:=Tryz.sizeOf9
  v9:=Tryz.zeroValue9
  t21:=Tryz.underlying21
  a21:=Tryz.isAgg21
  z21:=Tryz.sizeOf21
  v21:=Tryz.zeroValue21
  t31:=Tryz.underlying45
  a31:=Tryz.isAgg45
  z31:=Tryz.sizeOf45
  v31:=Tryz.zeroValue45
  t46:=Tryz.underlying135
  a46:=Tryz.isAgg135
  z46:=Tryz.sizeOf135
  v46:=Tryz.zeroValue135
  t51:=Tryz.underlying200
  a51:=Tryz.isAgg200
  z51:=Tryz.sizeOf200
  v51:=Tryz.zeroValue200
  t105:=Tryz.underlying147
  a105:=Tryz.isAgg147
  z105:=Tryz.sizeOf147
  v105:=Tryz.zeroValue147
  t119:=Tryz.underlying227
  a119:=Tryz.isAgg227
  z119:=Tryz.sizeOf227
  t138:=Tryz.underlying229
  a138:=Tryz.isAgg229
  z138:=Tryz.sizeOf229
  v138:=Tryz.zeroValue229
  t139:=Tryz.underlying230
  a139:=Tryz.isAgg230
  z139:=Tryz.sizeOf230
  v139:=Tryz.zeroValue230
  t146:=Tryz.underlying231
  a146:=Tryz.isAgg231
  z146:=Tryz.sizeOf231
  v146:=Tryz.zeroValue231
  g1:=by kernel_rfl
  g3:=by kernel_rfl
  g4:=by kernel_rfl
  i0:=by kernel_rfl
  i3:=by kernel_rfl
  i4:=by kernel_rfl
  i5:=by kernel_rfl
  i9:=by kernel_rfl
  i21:=by kernel_rfl
  i31:=by kernel_rfl
  i46:=by kernel_rfl
  i51:=by kernel_rfl
  i105:=by kernel_rfl
  i138:=by kernel_rfl
  i139:=by kernel_rfl
  i146:=by kernel_rfl
  m1:=by kernel_rfl
  s1_3:=fun w h=>Go.Proofs.cell_of_shapedOpen_int (zero:=#[.int .i64 0]) (t:=3) h (of_decide_eq_true (by kernel_rfl)) (by kernel_rfl) rfl (by kernel_rfl) (by kernel_rfl) Tryz.underlying3
  m3:=by kernel_rfl
  m4:=by kernel_rfl }
end Go.Proofs
