/- Shelf, PkB -/
import Derived.Test.YtcmomjnailihpaaGreatDoorUPkA
import Derived.Shelf.Strings.SlTrimAscii
import Derived.Shelf.Strings.Builder1
import Derived.Shelf.Strings.Builder2
import Derived.Shelf.Strings.Trim
import Derived.Shelf.Small.Utf8
import Derived.Shelf.Small.Bits
import Derived.Shelf.Small.Strs
import Derived.Shelf.Small.Wraps
import Derived.Shelf.Strings.BuilderF
import Derived.Shelf.Strings.BuilderK
import Derived.Shelf.Strings.Builder2Cap
import Derived.Shelf.Strconv.Atoi
import Derived.Shelf.Strconv.Itoa0
import Derived.Shelf.Strconv.Itoa1
import Derived.Shelf.LaysM
import Derived.Shelf.Strconv.Itoa2
import Derived.Shelf.Strconv.Itoa3
import Derived.Shelf.Strconv.AtoiErrFast
import Derived.Shelf.Strconv.ParseIntEmpty
import Derived.Shelf.Strconv.AtoiFail
import Derived.Shelf.Strconv.Clone
import Derived.Shelf.Strconv.SyntaxError
import Derived.Shelf.LaysC
import Derived.Shelf.Strconv.ToError
import Derived.Shelf.Strconv.Lower
import Derived.Shelf.Strconv.ParseUint10
import Derived.Shelf.Strconv.ParseUint10Empty
import Derived.Shelf.Strconv.ParseUint10Any
import Derived.Shelf.Strconv.ParseInt10
import Derived.Shelf.Strconv.AtoiLong
import Derived.Shelf.Strconv.AtoiInnerAll
import Derived.Shelf.Strconv.RangeError
import Derived.Shelf.Strconv.ToErrorRange
import Derived.Shelf.Strconv.AtoiAll
import Derived.Shelf.Strconv.ErrVarAll
import Derived.Shelf.Strings.Search1
import Derived.Shelf.Strings.Prefix
import Derived.Shelf.Strings.Runes
import Derived.Shelf.Strings.AsciiSet
import Derived.Shelf.Bits.Mul64
import Derived.Shelf.Strings.Repeat
import Derived.Shelf.Unicode.DecodeSlow
import Derived.Shelf.Strings.BuilderCap
import Derived.Test.YtcmomjnailihpaaGreatDoorProg
import Derived.Deep.RegionWith
import Derived.OrdersHeld
import Derived.OrdersIn
import Derived.Deep.RegionHeld
import Derived.Laws.EntriesVeiled
set_option maxHeartbeats 4000000
set_option maxRecDepth 100000
namespace Go.Proofs
open Go.Shelf
open Go.RowKit in
def Tryz.lays169_ren:Go.Shelf.Ren:=⟨fun | 169=>116 | n=>n,fun | 70=>138 | 9=>9 | 0=>0 | 72=>140 | 37=>132 | 127=>162 | 3=>3 | 5=>5 | n=>n,fun | n=>n⟩
theorem Tryz.lays169:Go.Proofs.Lays.n169 Tryz.prog Tryz.lays169_ren:={
 mixed:=by kernel_rfl
 f169:=Tryz.func116.trans (congrArg some (by kernel_rfl))
 t0:=Tryz.underlying0
 a0:=Tryz.isAgg0
 z0:=Tryz.sizeOf0
 v0:=Tryz.zeroValue0
 t3:=Tryz.underlying3
 a3:=Tryz.isAgg3
 z3:=Tryz.sizeOf3
 v3:=Tryz.zeroValue3
 t9:=Tryz.underlying9
 a9:=Tryz.isAgg9
 z9:=Tryz.sizeOf9
 v9:=Tryz.zeroValue9
 t37:=Tryz.underlying132
 a37:=Tryz.isAgg132
 z37:=Tryz.sizeOf132
 v37:=Tryz.zeroValue132
 t70:=Tryz.underlying138
 a70:=Tryz.isAgg138
 z70:=Tryz.sizeOf138
 v70:=Tryz.zeroValue138
 t72:=Tryz.underlying140
 a72:=Tryz.isAgg140
 z72:=Tryz.sizeOf140
 v72:=Tryz.zeroValue140
 t127:=Tryz.underlying162
 a127:=Tryz.isAgg162
 z127:=Tryz.sizeOf162
 v127:=Tryz.zeroValue162 }
theorem Tryz.Builder_Extra_169:Builder.Extra Tryz.prog Tryz.lays169_ren:={
 sizeBuilder:=by kernel_rfl
 liesBuilder:=by kernel_rfl
 t5:=Tryz.underlying5
 a5:=Tryz.isAgg5
 z5:=Tryz.sizeOf5
 v5:=Tryz.zeroValue5
 infoByte:=by kernel_rfl
 cellsByte:=by kernel_rfl
 sizeByte:=by kernel_rfl
 neB5:=by decide }
open Go.RowKit in
open Go.RowKit in
open Go.RowKit in
open Go.RowKit in
def Tryz.lays165_ren:Go.Shelf.Ren:=⟨fun | 165=>113 | 240=>142 | 241=>143 | 276=>156 | 277=>157 | n=>n,fun | 70=>138 | 3=>3 | 0=>0 | 4=>4 | 9=>9 | 20=>20 | 72=>140 | 37=>132 | 164=>170 | 5=>5 | n=>n,fun | n=>n⟩
theorem Tryz.lays165:Go.Proofs.Lays.n165 Tryz.prog Tryz.lays165_ren:={
 mixed:=by kernel_rfl
 f165:=Tryz.func113.trans (congrArg some (by kernel_rfl))
 f240:=Tryz.func142.trans (congrArg some (by kernel_rfl))
 f241:=Tryz.func143.trans (congrArg some (by kernel_rfl))
 f276:=Tryz.func156.trans (congrArg some (by kernel_rfl))
 f277:=Tryz.func157.trans (congrArg some (by kernel_rfl))
 t0:=Tryz.underlying0
 a0:=Tryz.isAgg0
 z0:=Tryz.sizeOf0
 v0:=Tryz.zeroValue0
 t3:=Tryz.underlying3
 a3:=Tryz.isAgg3
 z3:=Tryz.sizeOf3
 v3:=Tryz.zeroValue3
 t4:=Tryz.underlying4
 a4:=Tryz.isAgg4
 z4:=Tryz.sizeOf4
 v4:=Tryz.zeroValue4
 t9:=Tryz.underlying9
 a9:=Tryz.isAgg9
 z9:=Tryz.sizeOf9
 v9:=Tryz.zeroValue9
 t20:=Tryz.underlying20
 a20:=Tryz.isAgg20
 z20:=Tryz.sizeOf20
 v20:=Tryz.zeroValue20
 t37:=Tryz.underlying132
 a37:=Tryz.isAgg132
 z37:=Tryz.sizeOf132
 v37:=Tryz.zeroValue132
 t70:=Tryz.underlying138
 a70:=Tryz.isAgg138
 z70:=Tryz.sizeOf138
 v70:=Tryz.zeroValue138
 t72:=Tryz.underlying140
 a72:=Tryz.isAgg140
 z72:=Tryz.sizeOf140
 v72:=Tryz.zeroValue140
 t164:=Tryz.underlying170
 a164:=Tryz.isAgg170
 z164:=Tryz.sizeOf170
 v164:=Tryz.zeroValue170 }
theorem Tryz.Builder_Extra_165:Builder.Extra Tryz.prog Tryz.lays165_ren:={
 sizeBuilder:=by kernel_rfl
 liesBuilder:=by kernel_rfl
 t5:=Tryz.underlying5
 a5:=Tryz.isAgg5
 z5:=Tryz.sizeOf5
 v5:=Tryz.zeroValue5
 infoByte:=by kernel_rfl
 cellsByte:=by kernel_rfl
 sizeByte:=by kernel_rfl
 neB5:=by decide }
open Go.RowKit in
theorem Tryz.Builder_Grow_fresh (B b n:Nat) (w:World) (hB:B≤b) (hbk:w.heap[b]? = some (.cells #[.pointer none,.slice none 0 0] 140 (0,0))) (hBw:B≤w.heap.size) (hn:n≤281474976710656) :
 Calls Tryz.prog 113 #[.pointer (some ⟨b,0,none⟩),.int .i64 n] w fun e w'=>e=.returned (.tuple #[])∧(Lib.BuilderAt 140 5 B b (.pointer (some ⟨b,0,none⟩)) [] w'∧Below B w w'):=Any.Builder_Grow_fresh Tryz.lays165 Tryz.Builder_Extra_165 B b n w hB hbk hBw hn
open Go.RowKit in
open Go.RowKit in
open Go.RowKit in
def Tryz.lays134_ren:Go.Shelf.Ren:=⟨fun | 134=>110 | 129=>136 | n=>n,fun | 53=>71 | 3=>3 | 4=>4 | 46=>107 | 5=>5 | 9=>9 | n=>n,fun | n=>n⟩
theorem Tryz.lays134:Go.Proofs.Lays.n134 Tryz.prog Tryz.lays134_ren:={
 mixed:=by kernel_rfl
 f129:=Tryz.func136.trans (congrArg some (by kernel_rfl))
 f134:=Tryz.func110.trans (congrArg some (by kernel_rfl))
 t3:=Tryz.underlying3
 a3:=Tryz.isAgg3
 z3:=Tryz.sizeOf3
 v3:=Tryz.zeroValue3
 t4:=Tryz.underlying4
 a4:=Tryz.isAgg4
 z4:=Tryz.sizeOf4
 v4:=Tryz.zeroValue4
 t5:=Tryz.underlying5
 a5:=Tryz.isAgg5
 z5:=Tryz.sizeOf5
 v5:=Tryz.zeroValue5
 t9:=Tryz.underlying9
 a9:=Tryz.isAgg9
 z9:=Tryz.sizeOf9
 v9:=Tryz.zeroValue9
 t46:=Tryz.underlying107
 a46:=Tryz.isAgg107
 z46:=Tryz.sizeOf107
 v46:=Tryz.zeroValue107
 t53:=Tryz.underlying71
 a53:=Tryz.isAgg71
 z53:=Tryz.sizeOf71
 v53:=Tryz.zeroValue71 }
theorem Tryz.bits_LeadingZeros64 (x:Int) (w:World) (h0:0≤x) (h1:x≤18446744073709551615) :
 Calls Tryz.prog 110 #[.int .u64 x] w fun e w'=>e=.returned (.int .i64 (64-(Lib.bitLen x.toNat:Int)))∧w'=w:=Any.bits_LeadingZeros64 Tryz.lays134 x w h0 h1
open Go.RowKit in
open Go.RowKit in
def Tryz.lays122_ren:Go.Shelf.Ren:=⟨fun | 122=>150 | 215=>168 | n=>n,fun | 3=>3 | 4=>4 | n=>n,fun | n=>n⟩
theorem Tryz.lays122:Go.Proofs.Lays.n122 Tryz.prog Tryz.lays122_ren:={
 mixed:=by kernel_rfl
 f122:=Tryz.func150.trans (congrArg some (by kernel_rfl))
 f215:=Tryz.func168.trans (congrArg some (by kernel_rfl))
 t3:=Tryz.underlying3
 a3:=Tryz.isAgg3
 z3:=Tryz.sizeOf3
 v3:=Tryz.zeroValue3
 t4:=Tryz.underlying4
 a4:=Tryz.isAgg4
 z4:=Tryz.sizeOf4
 v4:=Tryz.zeroValue4 }
open Go.RowKit in
theorem Tryz.cmp_Compare_int (x y:Int) (w:World) :
 Calls Tryz.prog 150 #[.int .i64 x,.int .i64 y] w fun e w'=>e=.returned (.int .i64 (Lib.compareInt x y))∧w'=w:=Any.cmp_Compare_int Tryz.lays122 x y w
open Go.RowKit in
open Go.RowKit in
open Go.RowKit in
open Go.RowKit in
open Go.RowKit in
open Go.RowKit in
open Go.RowKit in
theorem Tryz.Builder_String_any_k (B b:Nat) (l:List UInt8) (w:World) (h:Lib.IsBuilderF 140 5 B b (Lib.byteCells l) w) (hBw:B≤w.heap.size) :
 Calls Tryz.prog 116 #[.pointer (some ⟨b,0,none⟩)] w fun e w'=>e=.returned (.string ⟨l.toArray⟩)∧(Lib.IsBuilderF 140 5 B b (Lib.byteCells l) w'∧Below B w w'∧Lib.OthersKept 5 (some b) w w'):=Any.Builder_String_any_k Tryz.lays169 Tryz.Builder_Extra_169 B b l w h hBw
open Go.RowKit in
open Go.RowKit in
open Go.RowKit in
def Tryz.lays172_ren:Go.Shelf.Ren:=⟨fun | 172=>146 | 244=>166 | 245=>167 | 247=>175 | 279=>176 | 280=>177 | 281=>178 | 282=>179 | 287=>183 | 316=>184 | 171=>91 | 205=>185 | 321=>190 | 322=>191 | 243=>123 | 246=>149 | 283=>137 | 284=>138 | 285=>139 | 286=>140 | 129=>136 | 317=>152 | 318=>153 | 319=>154 | 320=>155 | 337=>169 | 338=>170 | n=>n,fun | 9=>9 | 3=>3 | 75=>135 | 76=>142 | 4=>4 | 5=>5 | 167=>186 | 37=>132 | 0=>0 | 85=>187 | 2=>2 | 168=>189 | 53=>71 | 175=>195 | 46=>107 | 210=>199 | 127=>162 | 145=>210 | 143=>208 | 21=>21 | 171=>158 | 173=>160 | 212=>167 | 51=>145 | 20=>20 | 213=>168 | 232=>192 | 233=>193 | 80=>77 | n=>n,fun | 15=>6 | 16=>7 | 17=>2 | 18=>4 | 19=>5 | n=>n⟩
theorem Tryz.lays172:Go.Proofs.Lays.n172 Tryz.prog Tryz.lays172_ren:={
 mixed:=by kernel_rfl
 f129:=Tryz.func136.trans (congrArg some (by kernel_rfl))
 f171:=Tryz.func91.trans (congrArg some (by kernel_rfl))
 f172:=Tryz.func146.trans (congrArg some (by kernel_rfl))
 f205:=Tryz.func185.trans (congrArg some (by kernel_rfl))
 f243:=Tryz.func123.trans (congrArg some (by kernel_rfl))
 f244:=Tryz.func166.trans (congrArg some (by kernel_rfl))
 f245:=Tryz.func167.trans (congrArg some (by kernel_rfl))
 f246:=Tryz.func149.trans (congrArg some (by kernel_rfl))
 f247:=Tryz.func175.trans (congrArg some (by kernel_rfl))
 f279:=Tryz.func176.trans (congrArg some (by kernel_rfl))
 f280:=Tryz.func177.trans (congrArg some (by kernel_rfl))
 f281:=Tryz.func178.trans (congrArg some (by kernel_rfl))
 f282:=Tryz.func179.trans (congrArg some (by kernel_rfl))
 f283:=Tryz.func137.trans (congrArg some (by kernel_rfl))
 f284:=Tryz.func138.trans (congrArg some (by kernel_rfl))
 f285:=Tryz.func139.trans (congrArg some (by kernel_rfl))
 f286:=Tryz.func140.trans (congrArg some (by kernel_rfl))
 f287:=Tryz.func183.trans (congrArg some (by kernel_rfl))
 f316:=Tryz.func184.trans (congrArg some (by kernel_rfl))
 f317:=Tryz.func152.trans (congrArg some (by kernel_rfl))
 f318:=Tryz.func153.trans (congrArg some (by kernel_rfl))
 f319:=Tryz.func154.trans (congrArg some (by kernel_rfl))
 f320:=Tryz.func155.trans (congrArg some (by kernel_rfl))
 f321:=Tryz.func190.trans (congrArg some (by kernel_rfl))
 f322:=Tryz.func191.trans (congrArg some (by kernel_rfl))
 f337:=Tryz.func169.trans (congrArg some (by kernel_rfl))
 f338:=Tryz.func170.trans (congrArg some (by kernel_rfl))
 t0:=Tryz.underlying0
 a0:=Tryz.isAgg0
 z0:=Tryz.sizeOf0
 v0:=Tryz.zeroValue0
 t2:=Tryz.underlying2
 a2:=Tryz.isAgg2
 z2:=Tryz.sizeOf2
 v2:=Tryz.zeroValue2
 t3:=Tryz.underlying3
 a3:=Tryz.isAgg3
 z3:=Tryz.sizeOf3
 v3:=Tryz.zeroValue3
 t4:=Tryz.underlying4
 a4:=Tryz.isAgg4
 z4:=Tryz.sizeOf4
 v4:=Tryz.zeroValue4
 t5:=Tryz.underlying5
 a5:=Tryz.isAgg5
 z5:=Tryz.sizeOf5
 v5:=Tryz.zeroValue5
 t9:=Tryz.underlying9
 a9:=Tryz.isAgg9
 z9:=Tryz.sizeOf9
 v9:=Tryz.zeroValue9
 t20:=Tryz.underlying20
 a20:=Tryz.isAgg20
 z20:=Tryz.sizeOf20
 v20:=Tryz.zeroValue20
 t21:=Tryz.underlying21
 a21:=Tryz.isAgg21
 z21:=Tryz.sizeOf21
 v21:=Tryz.zeroValue21
 t37:=Tryz.underlying132
 a37:=Tryz.isAgg132
 z37:=Tryz.sizeOf132
 v37:=Tryz.zeroValue132
 t46:=Tryz.underlying107
 a46:=Tryz.isAgg107
 z46:=Tryz.sizeOf107
 v46:=Tryz.zeroValue107
 t51:=Tryz.underlying145
 a51:=Tryz.isAgg145
 z51:=Tryz.sizeOf145
 v51:=Tryz.zeroValue145
 t53:=Tryz.underlying71
 a53:=Tryz.isAgg71
 z53:=Tryz.sizeOf71
 v53:=Tryz.zeroValue71
 t75:=Tryz.underlying135
 a75:=Tryz.isAgg135
 z75:=Tryz.sizeOf135
 v75:=Tryz.zeroValue135
 t76:=Tryz.underlying142
 a76:=Tryz.isAgg142
 z76:=Tryz.sizeOf142
 v76:=Tryz.zeroValue142
 t85:=Tryz.underlying187
 a85:=Tryz.isAgg187
 z85:=Tryz.sizeOf187
 v85:=Tryz.zeroValue187
 t127:=Tryz.underlying162
 a127:=Tryz.isAgg162
 z127:=Tryz.sizeOf162
 v127:=Tryz.zeroValue162
 t143:=Tryz.underlying208
 a143:=Tryz.isAgg208
 z143:=Tryz.sizeOf208
 v143:=Tryz.zeroValue208
 t145:=Tryz.underlying210
 a145:=Tryz.isAgg210
 z145:=Tryz.sizeOf210
 v145:=Tryz.zeroValue210
 t167:=Tryz.underlying186
 a167:=Tryz.isAgg186
 z167:=Tryz.sizeOf186
 v167:=Tryz.zeroValue186
 t168:=Tryz.underlying189
 a168:=Tryz.isAgg189
 z168:=Tryz.sizeOf189
 v168:=Tryz.zeroValue189
 t171:=Tryz.underlying158
 a171:=Tryz.isAgg158
 z171:=Tryz.sizeOf158
 v171:=Tryz.zeroValue158
 t173:=Tryz.underlying160
 a173:=Tryz.isAgg160
 z173:=Tryz.sizeOf160
 v173:=Tryz.zeroValue160
 t175:=Tryz.underlying195
 a175:=Tryz.isAgg195
 z175:=Tryz.sizeOf195
 v175:=Tryz.zeroValue195
 t210:=Tryz.underlying199
 a210:=Tryz.isAgg199
 z210:=Tryz.sizeOf199
 v210:=Tryz.zeroValue199
 t212:=Tryz.underlying167
 a212:=Tryz.isAgg167
 z212:=Tryz.sizeOf167
 v212:=Tryz.zeroValue167
 t213:=Tryz.underlying168
 a213:=Tryz.isAgg168
 z213:=Tryz.sizeOf168
 t232:=Tryz.underlying192
 a232:=Tryz.isAgg192
 z232:=Tryz.sizeOf192
 v232:=Tryz.zeroValue192
 t233:=Tryz.underlying193
 a233:=Tryz.isAgg193
 z233:=Tryz.sizeOf193
 v233:=Tryz.zeroValue193
 g15:=by kernel_rfl
 g16:=by kernel_rfl
 g17:=by kernel_rfl
 g18:=by kernel_rfl
 g19:=by kernel_rfl }
open Go.RowKit in
theorem Tryz.strconv_Atoi (s:ByteArray) (n:Int) (hl:s.size≤18) (h:Lib.atoi s.data.toList=some n) (w:World) :
 Calls Tryz.prog 146 #[.string s] w fun e w'=>e=.returned (.tuple #[.int .i64 n,.nilIface])∧∃ t,w'=Lib.bytesWorld w 5 t:=Any.strconv_Atoi Tryz.lays172 s n hl h w
open Go.Lib in
open Go.Lib in
def Tryz.lays283_ren:Go.Shelf.Ren:=⟨fun | 283=>137 | n=>n,fun | 3=>3 | 9=>9 | 4=>4 | n=>n,fun | n=>n⟩
theorem Tryz.lays283:Go.Proofs.Lays.n283 Tryz.prog Tryz.lays283_ren:={
 mixed:=by kernel_rfl
 f283:=Tryz.func137.trans (congrArg some (by kernel_rfl))
 t3:=Tryz.underlying3
 a3:=Tryz.isAgg3
 z3:=Tryz.sizeOf3
 v3:=Tryz.zeroValue3
 t4:=Tryz.underlying4
 a4:=Tryz.isAgg4
 z4:=Tryz.sizeOf4
 v4:=Tryz.zeroValue4
 t9:=Tryz.underlying9
 a9:=Tryz.isAgg9
 z9:=Tryz.sizeOf9
 v9:=Tryz.zeroValue9 }
open Go.Lib in
theorem Tryz.internal_strconv_small (i:Nat) (h:i<100) (w:World) :
 Calls Tryz.prog 137 #[.int .i64 i] w fun e w'=>e=.returned (.string ⟨(Lib.decDigits i).toArray⟩)∧w'=w:=Any.internal_strconv_small Tryz.lays283 i h w
def Tryz.laysM284_ren:Go.Shelf.Ren:=⟨fun | 284=>138 | 129=>136 | 317=>152 | 318=>153 | n=>n,fun | 53=>71 | 3=>3 | 212=>167 | 0=>0 | 4=>4 | 46=>107 | 5=>5 | 9=>9 | n=>n,fun | 17=>2 | n=>n⟩
theorem Tryz.laysM284:Go.Proofs.LaysM.n284 Tryz.prog Tryz.laysM284_ren:={
 mixed:=by kernel_rfl
 f129:=Tryz.func136.trans (congrArg some (by kernel_rfl))
 f284:=Tryz.func138.trans (congrArg some (by kernel_rfl))
 f317:=Tryz.func152.trans (congrArg some (by kernel_rfl))
 f318:=Tryz.func153.trans (congrArg some (by kernel_rfl))
 t0:=Tryz.underlying0
 a0:=Tryz.isAgg0
 z0:=Tryz.sizeOf0
 v0:=Tryz.zeroValue0
 t3:=Tryz.underlying3
 a3:=Tryz.isAgg3
 z3:=Tryz.sizeOf3
 v3:=Tryz.zeroValue3
 t4:=Tryz.underlying4
 a4:=Tryz.isAgg4
 z4:=Tryz.sizeOf4
 v4:=Tryz.zeroValue4
 t5:=Tryz.underlying5
 a5:=Tryz.isAgg5
 z5:=Tryz.sizeOf5
 v5:=Tryz.zeroValue5
 t9:=Tryz.underlying9
 a9:=Tryz.isAgg9
 z9:=Tryz.sizeOf9
 v9:=Tryz.zeroValue9
 t46:=Tryz.underlying107
 a46:=Tryz.isAgg107
 z46:=Tryz.sizeOf107
 v46:=Tryz.zeroValue107
 t53:=Tryz.underlying71
 a53:=Tryz.isAgg71
 z53:=Tryz.sizeOf71
 v53:=Tryz.zeroValue71
 t212:=Tryz.underlying167
 a212:=Tryz.isAgg167
 z212:=Tryz.sizeOf167
 v212:=Tryz.zeroValue167
 g17:=by kernel_rfl
 i0:=by kernel_rfl
 i3:=by kernel_rfl
 i4:=by kernel_rfl
 i5:=by kernel_rfl
 i9:=by kernel_rfl
 i46:=by kernel_rfl
 i53:=by kernel_rfl
 i212:=by kernel_rfl
 m17:=by kernel_rfl }
open Go.Lib in
theorem Tryz.internal_strconv_numDigits (u : Nat) (h1 : 1 ≤ u) (h2 : u < 18446744073709551616) (w : World) (htab : Lib.TabIs Tryz.prog w "internal/strconv.uint64pow10" .u64 Lib.pow10Tab) :
 Calls Tryz.prog 138 #[.int .u64 u] w fun e w'=>e=.returned (.int .i64 (Lib.nDigits u))∧w'=w:=Any.internal_strconv_numDigits Tryz.laysM284 u h1 h2 w htab
def Tryz.lays285_ren:Go.Shelf.Ren:=⟨fun | 285=>139 | n=>n,fun | 37=>132 | 53=>71 | 3=>3 | 4=>4 | 51=>145 | 9=>9 | 5=>5 | 0=>0 | n=>n,fun | n=>n⟩
theorem Tryz.lays285:Go.Proofs.Lays.n285 Tryz.prog Tryz.lays285_ren:={
 mixed:=by kernel_rfl
 f285:=Tryz.func139.trans (congrArg some (by kernel_rfl))
 t0:=Tryz.underlying0
 a0:=Tryz.isAgg0
 z0:=Tryz.sizeOf0
 v0:=Tryz.zeroValue0
 t3:=Tryz.underlying3
 a3:=Tryz.isAgg3
 z3:=Tryz.sizeOf3
 v3:=Tryz.zeroValue3
 t4:=Tryz.underlying4
 a4:=Tryz.isAgg4
 z4:=Tryz.sizeOf4
 v4:=Tryz.zeroValue4
 t5:=Tryz.underlying5
 a5:=Tryz.isAgg5
 z5:=Tryz.sizeOf5
 v5:=Tryz.zeroValue5
 t9:=Tryz.underlying9
 a9:=Tryz.isAgg9
 z9:=Tryz.sizeOf9
 v9:=Tryz.zeroValue9
 t37:=Tryz.underlying132
 a37:=Tryz.isAgg132
 z37:=Tryz.sizeOf132
 v37:=Tryz.zeroValue132
 t51:=Tryz.underlying145
 a51:=Tryz.isAgg145
 z51:=Tryz.sizeOf145
 v51:=Tryz.zeroValue145
 t53:=Tryz.underlying71
 a53:=Tryz.isAgg71
 z53:=Tryz.sizeOf71
 v53:=Tryz.zeroValue71 }
open Go.RowKit Go.Sort Go.Lib in
theorem Tryz.internal_strconv_formatBase10 (blk off cap:Nat) (u:Nat) (d:Array UInt8) (w:World) (hH:Holds (fun (b:UInt8)=>Value.int .u8 (b.toNat:Int)) w blk off d) (hu:u<10 ^ d.size) (hu64:u<18446744073709551616) (hsz:d.size<4611686018427387904) :
 Calls Tryz.prog 139 #[.slice (some ⟨blk,off,none⟩) d.size cap,.int .u64 u] w fun e w' =>
  e=.returned (.tuple #[])∧∃ (n v':Nat) (dk:Array UInt8),w'=(putRow (fun (b:UInt8)=>Value.int .u8 (b.toNat:Int)) w blk off dk).drewN n∧FmtInv d.size u 0 v' dk:=Any.internal_strconv_formatBase10 Tryz.lays285 blk off cap u d w hH hu hu64 hsz
open Go.RowKit Go.Sort Go.Lib in
open Go.RowKit Go.Sort Go.Lib in
open Go.RowKit Go.Sort Go.Lib in
open Go.RowKit Go.Sort Go.Lib in
def Tryz.laysM171_ren:Go.Shelf.Ren:=⟨fun | 171=>91 | 243=>123 | 246=>149 | 283=>137 | 284=>138 | 285=>139 | 286=>140 | 129=>136 | 317=>152 | 318=>153 | 319=>154 | 320=>155 | 337=>169 | 338=>170 | n=>n,fun | 3=>3 | 9=>9 | 2=>2 | 4=>4 | 171=>158 | 0=>0 | 53=>71 | 37=>132 | 5=>5 | 173=>160 | 212=>167 | 51=>145 | 20=>20 | 213=>168 | 46=>107 | 232=>192 | 233=>193 | n=>n,fun | 17=>2 | 18=>4 | 19=>5 | n=>n⟩
theorem Tryz.laysM171:Go.Proofs.LaysM.n171 Tryz.prog Tryz.laysM171_ren:={
 mixed:=by kernel_rfl
 f129:=Tryz.func136.trans (congrArg some (by kernel_rfl))
 f171:=Tryz.func91.trans (congrArg some (by kernel_rfl))
 f243:=Tryz.func123.trans (congrArg some (by kernel_rfl))
 f246:=Tryz.func149.trans (congrArg some (by kernel_rfl))
 f283:=Tryz.func137.trans (congrArg some (by kernel_rfl))
 f284:=Tryz.func138.trans (congrArg some (by kernel_rfl))
 f285:=Tryz.func139.trans (congrArg some (by kernel_rfl))
 f286:=Tryz.func140.trans (congrArg some (by kernel_rfl))
 f317:=Tryz.func152.trans (congrArg some (by kernel_rfl))
 f318:=Tryz.func153.trans (congrArg some (by kernel_rfl))
 f319:=Tryz.func154.trans (congrArg some (by kernel_rfl))
 f320:=Tryz.func155.trans (congrArg some (by kernel_rfl))
 f337:=Tryz.func169.trans (congrArg some (by kernel_rfl))
 f338:=Tryz.func170.trans (congrArg some (by kernel_rfl))
 t0:=Tryz.underlying0
 a0:=Tryz.isAgg0
 z0:=Tryz.sizeOf0
 v0:=Tryz.zeroValue0
 t2:=Tryz.underlying2
 a2:=Tryz.isAgg2
 z2:=Tryz.sizeOf2
 v2:=Tryz.zeroValue2
 t3:=Tryz.underlying3
 a3:=Tryz.isAgg3
 z3:=Tryz.sizeOf3
 v3:=Tryz.zeroValue3
 t4:=Tryz.underlying4
 a4:=Tryz.isAgg4
 z4:=Tryz.sizeOf4
 v4:=Tryz.zeroValue4
 t5:=Tryz.underlying5
 a5:=Tryz.isAgg5
 z5:=Tryz.sizeOf5
 v5:=Tryz.zeroValue5
 t9:=Tryz.underlying9
 a9:=Tryz.isAgg9
 z9:=Tryz.sizeOf9
 v9:=Tryz.zeroValue9
 t20:=Tryz.underlying20
 a20:=Tryz.isAgg20
 z20:=Tryz.sizeOf20
 v20:=Tryz.zeroValue20
 t37:=Tryz.underlying132
 a37:=Tryz.isAgg132
 z37:=Tryz.sizeOf132
 v37:=Tryz.zeroValue132
 t46:=Tryz.underlying107
 a46:=Tryz.isAgg107
 z46:=Tryz.sizeOf107
 v46:=Tryz.zeroValue107
 t51:=Tryz.underlying145
 a51:=Tryz.isAgg145
 z51:=Tryz.sizeOf145
 v51:=Tryz.zeroValue145
 t53:=Tryz.underlying71
 a53:=Tryz.isAgg71
 z53:=Tryz.sizeOf71
 v53:=Tryz.zeroValue71
 t171:=Tryz.underlying158
 a171:=Tryz.isAgg158
 z171:=Tryz.sizeOf158
 v171:=Tryz.zeroValue158
 t173:=Tryz.underlying160
 a173:=Tryz.isAgg160
 z173:=Tryz.sizeOf160
 v173:=Tryz.zeroValue160
 t212:=Tryz.underlying167
 a212:=Tryz.isAgg167
 z212:=Tryz.sizeOf167
 v212:=Tryz.zeroValue167
 t213:=Tryz.underlying168
 a213:=Tryz.isAgg168
 z213:=Tryz.sizeOf168
 t232:=Tryz.underlying192
 a232:=Tryz.isAgg192
 z232:=Tryz.sizeOf192
 v232:=Tryz.zeroValue192
 t233:=Tryz.underlying193
 a233:=Tryz.isAgg193
 z233:=Tryz.sizeOf193
 v233:=Tryz.zeroValue193
 g17:=by kernel_rfl
 g18:=by kernel_rfl
 g19:=by kernel_rfl
 i0:=by kernel_rfl
 i2:=by kernel_rfl
 i3:=by kernel_rfl
 i4:=by kernel_rfl
 i5:=by kernel_rfl
 i9:=by kernel_rfl
 i20:=by kernel_rfl
 i37:=by kernel_rfl
 i46:=by kernel_rfl
 i51:=by kernel_rfl
 i53:=by kernel_rfl
 i171:=by kernel_rfl
 i173:=by kernel_rfl
 i212:=by kernel_rfl
 i232:=by kernel_rfl
 i233:=by kernel_rfl
 m17:=by kernel_rfl
 m18:=by kernel_rfl
 m19:=by kernel_rfl }
open Go.RowKit Go.Sort Go.Lib in
theorem Tryz.strconv_Itoa (n : Int) (h0 : -9223372036854775808 ≤ n) (h1 : n ≤ 9223372036854775807) (w : World) (htab : Lib.TabIs Tryz.prog w "internal/strconv.uint64pow10" .u64 Lib.pow10Tab) :
 Calls Tryz.prog 91 #[.int .i64 n] w fun e w'=>e=.returned (.string ⟨(Lib.itoa n).toArray⟩)∧∃ k os,w'=grow (w.drewN k) os:=Any.strconv_Itoa Tryz.laysM171 n h0 h1 w htab
open Go.RowKit Go.Sort Go.Lib in
open Go.RowKit in
open Go.RowKit in
open Go.RowKit in
open Go.RowKit in
open Go.RowKit in
open Go.RowKit in
open Go.RowKit in
open Go.RowKit in
open Go.RowKit in
open Go.RowKit in
open Go.RowKit in
open Go.RowKit in
open Go.RowKit in
open Go.RowKit in
open Go.RowKit in
open Go.RowKit in
open Go.RowKit in
open Go.RowKit in
open Go.RowKit in
open Go.RowKit Go.Lib in
open Go.RowKit Go.Lib in
open Go.RowKit Go.Lib in
open Go.RowKit Go.Lib in
open Go.RowKit Go.Lib in
def Tryz.lays101_ren:Go.Shelf.Ren:=⟨fun | 101=>144 | 208=>158 | 206=>141 | n=>n,fun | 9=>9 | 4=>4 | 3=>3 | n=>n,fun | n=>n⟩
theorem Tryz.lays101:Go.Proofs.Lays.n101 Tryz.prog Tryz.lays101_ren:={
 mixed:=by kernel_rfl
 f101:=Tryz.func144.trans (congrArg some (by kernel_rfl))
 f206:=Tryz.func141.trans (congrArg some (by kernel_rfl))
 f208:=Tryz.func158.trans (congrArg some (by kernel_rfl))
 t3:=Tryz.underlying3
 a3:=Tryz.isAgg3
 z3:=Tryz.sizeOf3
 v3:=Tryz.zeroValue3
 t4:=Tryz.underlying4
 a4:=Tryz.isAgg4
 z4:=Tryz.sizeOf4
 v4:=Tryz.zeroValue4
 t9:=Tryz.underlying9
 a9:=Tryz.isAgg9
 z9:=Tryz.sizeOf9
 v9:=Tryz.zeroValue9 }
open Go.RowKit Go.Lib in
theorem Tryz.strings_TrimPrefix (s p:ByteArray) (w:World) :
 Calls Tryz.prog 144 #[.string s,.string p] w fun e w'=>e=.returned (.string ⟨(Lib.trimPrefix s.data.toList p.data.toList).toArray⟩)∧w'=w:=Any.strings_TrimPrefix Tryz.lays101 s p w
open Go.RowKit Go.Lib in
open Go.RowKit Go.Lib in
open Go.RowKit Go.Lib in
open Go.RowKit Go.Lib in
def Tryz.lays264_ren:Go.Shelf.Ren:=⟨fun | 264=>118 | n=>n,fun | 53=>71 | 46=>107 | n=>n,fun | n=>n⟩
theorem Tryz.lays264:Go.Proofs.Lays.n264 Tryz.prog Tryz.lays264_ren:={
 mixed:=by kernel_rfl
 f264:=Tryz.func118.trans (congrArg some (by kernel_rfl))
 t46:=Tryz.underlying107
 a46:=Tryz.isAgg107
 z46:=Tryz.sizeOf107
 v46:=Tryz.zeroValue107
 t53:=Tryz.underlying71
 a53:=Tryz.isAgg71
 z53:=Tryz.sizeOf71
 v53:=Tryz.zeroValue71 }
open Go.RowKit Go.Lib in
theorem Tryz.bits_Mul64 (x y:Nat) (hx:x<18446744073709551616) (hy:y<18446744073709551616) (w:World) :
 Calls Tryz.prog 118 #[.int .u64 x,.int .u64 y] w fun e w'=>e=.returned (.tuple #[.int .u64 ((x*y / 18446744073709551616:Nat):Int),.int .u64 ((x*y % 18446744073709551616:Nat):Int)])∧w'=w:=Any.bits_Mul64 Tryz.lays264 x y hx hy w
def Tryz.lays212_ren:Go.Shelf.Ren:=⟨fun | 212=>84 | 263=>117 | 264=>118 | n=>n,fun | 46=>107 | 51=>145 | 146=>146 | 53=>71 | 148=>103 | n=>n,fun | n=>n⟩
theorem Tryz.lays212:Go.Proofs.Lays.n212 Tryz.prog Tryz.lays212_ren:={
 mixed:=by kernel_rfl
 f212:=Tryz.func84.trans (congrArg some (by kernel_rfl))
 f263:=Tryz.func117.trans (congrArg some (by kernel_rfl))
 f264:=Tryz.func118.trans (congrArg some (by kernel_rfl))
 t46:=Tryz.underlying107
 a46:=Tryz.isAgg107
 z46:=Tryz.sizeOf107
 v46:=Tryz.zeroValue107
 t51:=Tryz.underlying145
 a51:=Tryz.isAgg145
 z51:=Tryz.sizeOf145
 v51:=Tryz.zeroValue145
 t53:=Tryz.underlying71
 a53:=Tryz.isAgg71
 z53:=Tryz.sizeOf71
 v53:=Tryz.zeroValue71
 t146:=Tryz.underlying146
 a146:=Tryz.isAgg146
 z146:=Tryz.sizeOf146
 v146:=Tryz.zeroValue146
 t148:=Tryz.underlying103
 a148:=Tryz.isAgg103
 z148:=Tryz.sizeOf103
 v148:=Tryz.zeroValue103 }
open Go.RowKit Go.Lib in
theorem Tryz.bits_Mul (x y:Nat) (hx:x<18446744073709551616) (hy:y<18446744073709551616) (w:World) :
 Calls Tryz.prog 84 #[.int .u64 x,.int .u64 y] w fun e w'=>e=.returned (.tuple #[.int .u64 ((x*y / 18446744073709551616:Nat):Int),.int .u64 ((x*y % 18446744073709551616:Nat):Int)])∧w'=w:=Any.bits_Mul Tryz.lays212 x y hx hy w
def Tryz.lays105_ren:Go.Shelf.Ren:=⟨fun | 105=>82 | 212=>84 | 99=>112 | 165=>113 | 166=>114 | 170=>115 | 169=>116 | 263=>117 | 264=>118 | 206=>141 | 240=>142 | 241=>143 | 276=>156 | 277=>157 | n=>n,fun | 9=>9 | 3=>3 | 4=>4 | 20=>20 | 0=>0 | 46=>107 | 109=>108 | 5=>5 | 72=>140 | 76=>142 | 51=>145 | 146=>146 | 53=>71 | 148=>103 | 70=>138 | 37=>132 | 75=>135 | 127=>162 | 164=>170 | 80=>77 | n=>n,fun | n=>n⟩
theorem Tryz.lays105:Go.Proofs.Lays.n105 Tryz.prog Tryz.lays105_ren:={
 mixed:=by kernel_rfl
 f99:=Tryz.func112.trans (congrArg some (by kernel_rfl))
 f105:=Tryz.func82.trans (congrArg some (by kernel_rfl))
 f165:=Tryz.func113.trans (congrArg some (by kernel_rfl))
 f166:=Tryz.func114.trans (congrArg some (by kernel_rfl))
 f169:=Tryz.func116.trans (congrArg some (by kernel_rfl))
 f170:=Tryz.func115.trans (congrArg some (by kernel_rfl))
 f206:=Tryz.func141.trans (congrArg some (by kernel_rfl))
 f212:=Tryz.func84.trans (congrArg some (by kernel_rfl))
 f240:=Tryz.func142.trans (congrArg some (by kernel_rfl))
 f241:=Tryz.func143.trans (congrArg some (by kernel_rfl))
 f263:=Tryz.func117.trans (congrArg some (by kernel_rfl))
 f264:=Tryz.func118.trans (congrArg some (by kernel_rfl))
 f276:=Tryz.func156.trans (congrArg some (by kernel_rfl))
 f277:=Tryz.func157.trans (congrArg some (by kernel_rfl))
 t0:=Tryz.underlying0
 a0:=Tryz.isAgg0
 z0:=Tryz.sizeOf0
 v0:=Tryz.zeroValue0
 t3:=Tryz.underlying3
 a3:=Tryz.isAgg3
 z3:=Tryz.sizeOf3
 v3:=Tryz.zeroValue3
 t4:=Tryz.underlying4
 a4:=Tryz.isAgg4
 z4:=Tryz.sizeOf4
 v4:=Tryz.zeroValue4
 t5:=Tryz.underlying5
 a5:=Tryz.isAgg5
 z5:=Tryz.sizeOf5
 v5:=Tryz.zeroValue5
 t9:=Tryz.underlying9
 a9:=Tryz.isAgg9
 z9:=Tryz.sizeOf9
 v9:=Tryz.zeroValue9
 t20:=Tryz.underlying20
 a20:=Tryz.isAgg20
 z20:=Tryz.sizeOf20
 v20:=Tryz.zeroValue20
 t37:=Tryz.underlying132
 a37:=Tryz.isAgg132
 z37:=Tryz.sizeOf132
 v37:=Tryz.zeroValue132
 t46:=Tryz.underlying107
 a46:=Tryz.isAgg107
 z46:=Tryz.sizeOf107
 v46:=Tryz.zeroValue107
 t51:=Tryz.underlying145
 a51:=Tryz.isAgg145
 z51:=Tryz.sizeOf145
 v51:=Tryz.zeroValue145
 t53:=Tryz.underlying71
 a53:=Tryz.isAgg71
 z53:=Tryz.sizeOf71
 v53:=Tryz.zeroValue71
 t70:=Tryz.underlying138
 a70:=Tryz.isAgg138
 z70:=Tryz.sizeOf138
 v70:=Tryz.zeroValue138
 t72:=Tryz.underlying140
 a72:=Tryz.isAgg140
 z72:=Tryz.sizeOf140
 v72:=Tryz.zeroValue140
 t75:=Tryz.underlying135
 a75:=Tryz.isAgg135
 z75:=Tryz.sizeOf135
 v75:=Tryz.zeroValue135
 t76:=Tryz.underlying142
 a76:=Tryz.isAgg142
 z76:=Tryz.sizeOf142
 v76:=Tryz.zeroValue142
 t109:=Tryz.underlying108
 a109:=Tryz.isAgg108
 z109:=Tryz.sizeOf108
 v109:=Tryz.zeroValue108
 t127:=Tryz.underlying162
 a127:=Tryz.isAgg162
 z127:=Tryz.sizeOf162
 v127:=Tryz.zeroValue162
 t146:=Tryz.underlying146
 a146:=Tryz.isAgg146
 z146:=Tryz.sizeOf146
 v146:=Tryz.zeroValue146
 t148:=Tryz.underlying103
 a148:=Tryz.isAgg103
 z148:=Tryz.sizeOf103
 v148:=Tryz.zeroValue103
 t164:=Tryz.underlying170
 a164:=Tryz.isAgg170
 z164:=Tryz.sizeOf170
 v164:=Tryz.zeroValue170 }
theorem Tryz.Builder_Extra_105:Builder.Extra Tryz.prog Tryz.lays105_ren:={
 sizeBuilder:=by kernel_rfl
 liesBuilder:=by kernel_rfl
 t5:=Tryz.underlying5
 a5:=Tryz.isAgg5
 z5:=Tryz.sizeOf5
 v5:=Tryz.zeroValue5
 infoByte:=by kernel_rfl
 cellsByte:=by kernel_rfl
 sizeByte:=by kernel_rfl
 neB5:=by decide }
open Go.RowKit Go.Lib in
open Go.RowKit Go.Lib in
open Go.RowKit Go.Lib in
open Go.RowKit Go.Lib in
open Go.RowKit Go.Lib in
open Go.RowKit Go.Lib in
open Go.RowKit Go.Lib in
theorem Tryz.strings_Repeat (s:ByteArray) (c:Nat) (w:World) (hc:c≤9223372036854775807) (hlen:s.size*c≤140737488355328) :
 Calls Tryz.prog 82 #[.string s,.int .i64 c] w fun e w'=>e=.returned (.string ⟨(Lib.repeatL s.data.toList c).toArray⟩)∧Below w.heap.size w w':=Any.strings_Repeat Tryz.lays105 Tryz.Builder_Extra_105 s c w hc hlen
open Go.RowKit Go.Lib in
def Tryz.lays160t_ren:Go.Shelf.Ren:=⟨fun | 160=>145 | 232=>160 | 231=>159 | 227=>161 | 234=>163 | 233=>162 | 236=>165 | 235=>164 | 228=>171 | 271=>174 | 151=>173 | 197=>172 | 120=>182 | 152=>181 | 260=>180 | 137=>186 | 119=>187 | 224=>188 | 225=>189 | 217=>192 | 266=>193 | n=>n,fun | 9=>9 | 4=>4 | 3=>3 | 5=>5 | 117=>176 | 116=>175 | 0=>0 | 124=>179 | 21=>21 | 105=>183 | 46=>107 | 119=>201 | 139=>204 | 138=>203 | n=>n,fun | 3=>8 | 4=>9 | n=>n⟩
theorem Tryz.lays160t:Go.Proofs.Lays.n160 Tryz.prog Tryz.lays160t_ren:={
 mixed:=by kernel_rfl
 f119:=Tryz.func187.trans (congrArg some (by kernel_rfl))
 f120:=Tryz.func182.trans (congrArg some (by kernel_rfl))
 f137:=Tryz.func186.trans (congrArg some (by kernel_rfl))
 f151:=Tryz.func173.trans (congrArg some (by kernel_rfl))
 f152:=Tryz.func181.trans (congrArg some (by kernel_rfl))
 f160:=Tryz.func145.trans (congrArg some (by kernel_rfl))
 f197:=Tryz.func172.trans (congrArg some (by kernel_rfl))
 f217:=Tryz.func192.trans (congrArg some (by kernel_rfl))
 f224:=Tryz.func188.trans (congrArg some (by kernel_rfl))
 f225:=Tryz.func189.trans (congrArg some (by kernel_rfl))
 f227:=Tryz.func161.trans (congrArg some (by kernel_rfl))
 f228:=Tryz.func171.trans (congrArg some (by kernel_rfl))
 f231:=Tryz.func159.trans (congrArg some (by kernel_rfl))
 f232:=Tryz.func160.trans (congrArg some (by kernel_rfl))
 f233:=Tryz.func162.trans (congrArg some (by kernel_rfl))
 f234:=Tryz.func163.trans (congrArg some (by kernel_rfl))
 f235:=Tryz.func164.trans (congrArg some (by kernel_rfl))
 f236:=Tryz.func165.trans (congrArg some (by kernel_rfl))
 f260:=Tryz.func180.trans (congrArg some (by kernel_rfl))
 f266:=Tryz.func193.trans (congrArg some (by kernel_rfl))
 f271:=Tryz.func174.trans (congrArg some (by kernel_rfl))
 t0:=Tryz.underlying0
 a0:=Tryz.isAgg0
 z0:=Tryz.sizeOf0
 v0:=Tryz.zeroValue0
 t3:=Tryz.underlying3
 a3:=Tryz.isAgg3
 z3:=Tryz.sizeOf3
 v3:=Tryz.zeroValue3
 t4:=Tryz.underlying4
 a4:=Tryz.isAgg4
 z4:=Tryz.sizeOf4
 v4:=Tryz.zeroValue4
 t5:=Tryz.underlying5
 a5:=Tryz.isAgg5
 z5:=Tryz.sizeOf5
 v5:=Tryz.zeroValue5
 t9:=Tryz.underlying9
 a9:=Tryz.isAgg9
 z9:=Tryz.sizeOf9
 v9:=Tryz.zeroValue9
 t21:=Tryz.underlying21
 a21:=Tryz.isAgg21
 z21:=Tryz.sizeOf21
 v21:=Tryz.zeroValue21
 t46:=Tryz.underlying107
 a46:=Tryz.isAgg107
 z46:=Tryz.sizeOf107
 v46:=Tryz.zeroValue107
 t105:=Tryz.underlying183
 a105:=Tryz.isAgg183
 z105:=Tryz.sizeOf183
 v105:=Tryz.zeroValue183
 t116:=Tryz.underlying175
 a116:=Tryz.isAgg175
 z116:=Tryz.sizeOf175
 t117:=Tryz.underlying176
 a117:=Tryz.isAgg176
 z117:=Tryz.sizeOf176
 v117:=Tryz.zeroValue176
 t119:=Tryz.underlying201
 a119:=Tryz.isAgg201
 z119:=Tryz.sizeOf201
 t124:=Tryz.underlying179
 a124:=Tryz.isAgg179
 z124:=Tryz.sizeOf179
 v124:=Tryz.zeroValue179
 t138:=Tryz.underlying203
 a138:=Tryz.isAgg203
 z138:=Tryz.sizeOf203
 v138:=Tryz.zeroValue203
 t139:=Tryz.underlying204
 a139:=Tryz.isAgg204
 z139:=Tryz.sizeOf204
 v139:=Tryz.zeroValue204
 g3:=by kernel_rfl
 g4:=by kernel_rfl }
end Go.Proofs
/- The contract of number.compare. -/
namespace Go.Proofs.YtcmomjnailihpaaGreatDoor
section
open Go.RowKit Go.Shelf
attribute [local go_sem] Oper.semAt_some
def cmpTop (xs ys:List Int):Nat→Int
 | 0=>0
 | k+1=>if gi xs k=gi ys k then cmpTop xs ys k else Lib.compareInt (gi xs k) (gi ys k)
def cmpL (xs ys:List Int):Int:=if xs.length=ys.length then cmpTop xs ys xs.length else Lib.compareInt xs.length ys.length
theorem Gn (v u:Value) (xs ys:List Int) (w:World) (hv:Sl w v xs) (hu:Sl w u ys) (hne:¬ xs.length=ys.length) :
  Calls Tryz.prog 125 #[v,u] w fun e w'=>e=.returned (.int .i64 (cmpL xs ys))∧Below w.heap.size w w':=by
 have hc:cmpL xs ys=Lib.compareInt xs.length ys.length:=if_neg hne
 obtain ⟨a1,c1,rfl⟩:=hv.shape
 obtain ⟨a2,c2,rfl⟩:=hu.shape
 rw [hc]
 have hb:((xs.length:Int) != ys.length)=true:=by simp;omega
 clear hc hv hu
 refine (callsIn_wide (n:=5)).1 ?_
 refine callsIn_of_wp_marks Tryz.func125 rfl trivial ?_ rfl
 simp only [Tryz.ntmps125,List.size_toArray,List.length_cons,List.length_nil,Nat.reduceAdd,Nat.reduceSub,Array.replicate_succ,Array.replicate_zero,List.push_toArray,List.append_toArray,List.nil_append,List.cons_append]
 gi_wp2_with fail
 refine ⟨trivial,(callsIn_wide.2 (Tryz.cmp_Compare_int _ _ _)).mono ?_⟩
 rintro e w' ⟨rfl,rfl⟩
 gi_wp2_with fail
 exact ⟨.int .i64 (Lib.compareInt xs.length ys.length),by simp [results,Tryz.results125,go_sem],rfl,((Below.refl _ _).alloc (Aa _) _).alloc (by simp) _⟩
def Alike' (xs ys:List Int) (pre:List (Fin xs.length)):Prop:=∀ x∈pre,gi xs x.1=gi ys x.1
theorem CD {xs ys:List Int}:∀ k,k≤xs.length→Alike' xs ys (downs xs.length k)→cmpTop xs ys xs.length=cmpTop xs ys (xs.length-k)
 | 0,_,_=>rfl
 | k+1,h,ha=>by
  rw [AK (by omega)] at ha
  have h1:Alike' xs ys (downs xs.length k):=fun x hx=>ha x (List.mem_append.2 (.inl hx))
  have h2:=ha ⟨xs.length-1-k,by omega⟩ (List.mem_append.2 (.inr (by simp)))
  rw [CD k (by omega) h1]
  have e:xs.length-k=(xs.length-1-k)+1:=by omega
  have e2:xs.length-(k+1)=xs.length-1-k:=by omega
  rw [e,e2,cmpTop,if_pos h2]
def Found (xs ys:List Int) (r:Int) (pre:List (Fin xs.length)):Prop:=∃ p x,pre=p++[x]∧Alike' xs ys p∧gi xs x.1≠gi ys x.1∧r=Lib.compareInt (gi xs x.1) (gi ys x.1)
theorem Gp {xs ys:List Int} {r:Int} {k:Nat} (hk:k≤xs.length) (h:Found xs ys r (downs xs.length k)):cmpTop xs ys xs.length=r:=by
 obtain ⟨p,x,he,ha,hne,hr⟩:=h
 cases k with
 | zero=>simp [downs] at he
 | succ k =>
  rw [AK (by omega)] at he
  have h1:=List.append_inj' he rfl
  obtain ⟨rfl,h2⟩:=h1
  have h3:x.1=xs.length-1-k:=by
   have:(⟨xs.length-1-k,by omega⟩:Fin xs.length)=x:=by simpa using h2
   exact (congrArg Fin.val this).symm
  rw [CD k (by omega) ha]
  have e:xs.length-k=x.1+1:=by omega
  rw [e,cmpTop,if_neg hne,hr]
theorem IS (v u:Value) (xs ys:List Int) (w:World) (hv:Sl w v xs) (hu:Sl w u ys) (hl:xs.length=ys.length) :
  Calls Tryz.prog 125 #[v,u] w fun e w'=>e=.returned (.int .i64 (cmpTop xs ys xs.length))∧Below w.heap.size w w':=by
 have hb:((xs.length:Int) != ys.length)=false:=by simp;omega
 have Hl:=A8 hl
 clear hl
 have hw0:Below w.heap.size w (((w.alloc (.cells #[u] 112)).alloc (.cells #[.int .i64 0] 3)).alloc (.cells #[v] 112)):=(((Below.refl _ _).alloc (Aa _) _).alloc (by simp) _).alloc (by simp;omega) _
 have hv0:=hv.below hw0
 have hu0:=hu.below hw0
 have hvp:=hv.ptr_lt
 have b1:Boxed (((w.alloc (.cells #[u] 112)).alloc (.cells #[.int .i64 0] 3)).alloc (.cells #[v] 112)) w.heap.size 112 u:=((Boxed.new w _ _).alloc _).alloc _
 have b2:Boxed (((w.alloc (.cells #[u] 112)).alloc (.cells #[.int .i64 0] 3)).alloc (.cells #[v] 112)) (w.heap.size+1) 3 (.int .i64 0):=by
  have:=(Boxed.new (w.alloc (.cells #[u] 112)) 3 (.int .i64 0)).alloc (.cells #[v] 112)
  rwa [World.size_alloc] at this
 have b3:Boxed (((w.alloc (.cells #[u] 112)).alloc (.cells #[.int .i64 0] 3)).alloc (.cells #[v] 112)) (w.heap.size+1+1) 112 v:=by
  have:=Boxed.new ((w.alloc (.cells #[u] 112)).alloc (.cells #[.int .i64 0] 3)) 112 v
  rwa [World.size_alloc,World.size_alloc] at this
 obtain ⟨a1,c1,rfl⟩:=hv.shape
 obtain ⟨a2,c2,rfl⟩:=hu.shape
 refine (callsIn_wide (n:=5)).1 ?_
 refine callsIn_of_wp_marks Tryz.func125 rfl trivial ?_ rfl
 simp only [Tryz.ntmps125,List.size_toArray,List.length_cons,List.length_nil,Nat.reduceAdd,Nat.reduceSub,Array.replicate_succ,Array.replicate_zero,List.push_toArray,List.append_toArray,List.nil_append,List.cons_append]
 gi_wp2_with (refine ⟨trivial,?_⟩;gi_at_call 121;refine (Eu Fence.wide 4 trivial rfl _ _ ⟨_,_,_,rfl⟩).mono ?_;rintro e w' ⟨rfl,rfl⟩)
 refine Gl (w.heap.size+1+1) [w.heap.size+1] (.slice a1 xs.length c1) xs rfl b3.cell hv0 (by simp) (fun b o e=>by have:=hvp b o e;simp;omega) rfl
  (fun pre W=>Boxed W w.heap.size 112 (.slice a2 ys.length c2)∧Boxed W (w.heap.size+1) 3 (.int .i64 0)∧Sl W (.slice a2 ys.length c2) ys∧Alike' xs ys pre)
  (fun pre W=>∃ r,Boxed W (w.heap.size+1) 3 (.int .i64 r)∧Found xs ys r pre)
  (fun pre W W' h k=>⟨k.boxed h.1,k.boxed h.2.1,k.sl h.2.2.1,h.2.2.2⟩) (fun pre W W' ⟨r,h1,h2⟩ k=>⟨r,k.boxed h1,h2⟩)
  (fun pre W h k hk=>by simp at hk;subst hk;exact ⟨_,h.2.1,rfl⟩) ⟨b1,b2,hu0,fun _ h=>by cases h⟩
  (fun x=>{ tmps:=#[.slice a1 xs.length c1,.slice a2 ys.length c2,undef,.pointer (some ⟨w.heap.size,0,none⟩),.pointer (some ⟨w.heap.size+1,0,none⟩),.int .i64 (x.1:Int),.int .i64 (gi xs x.1),.slice a1 xs.length c1,
   .int .i64 xs.length,.slice a2 ys.length c2,.int .i64 ys.length,.bool false,undef,undef,undef,undef,undef,.slice a1 xs.length c1,.func (.func 147) #[] #[.pointer (some ⟨w.heap.size+1+1,0,none⟩)],
   .int .i64 (x.1:Int),.int .i64 (gi xs x.1),undef,undef,undef,undef,undef,undef,undef,undef,undef,undef,undef,undef],defers:=[] }) ?assign ?body ?done ?stop
 case assign =>
  intro l x W K hK
  gi_wp2
  exact hK
 case body =>
  rintro l pre x W ho ⟨h1,h2,h3,h4⟩ hlen
  have hx2:x.1<ys.length:=by have:=Hl.out;omega
  rcases h3 with ⟨_,h0⟩ | ⟨b,off,cap,he,g1,g2,g3,g4⟩
  ·rw [h0] at hx2;cases hx2
  ·cases he
   have hc:=g4 x.1 hx2
   have hc1:=h1.cell
   have hc2:=h2.cell
   have hf2:=h2.frozen
   by_cases heq:gi xs x.1=gi ys x.1
   ·have hne:(gi xs x.1 != gi ys x.1)=false:=by simp [heq]
    have He:=A8 heq
    clear heq
    gi_wp2
    refine ⟨Only.refl _ _,h1,h2,.inr ⟨b,off,c2,rfl,g1,g2,g3,g4⟩,fun y hy=>?_⟩
    rcases List.mem_append.1 hy with hy | hy
    ·exact h4 y hy
    ·simp at hy;subst hy;exact He.out
   ·have hne:(gi xs x.1 != gi ys x.1)=true:=by simp [heq]
    gi_wp2_with (refine ⟨trivial,?_⟩;gi_at_call 150;refine (CallsIn.inRound l (callsIn_wide.2 (Tryz.cmp_Compare_int _ _ _))).mono ?_;rintro e w' ⟨rfl,rfl⟩)
    exact ⟨(Only.refl _ _).setCell (by simp) _,_,h2.set _,pre,x,rfl,h4,heq,rfl⟩
 case done =>
  rintro D W hD ho ⟨h1,h2,h3,h4⟩ hK
  have hc2:=h2.cell
  have hf2:=h2.frozen
  have hz:cmpTop xs ys xs.length=0:=by rw [CD _ (Aa _) h4,Nat.sub_self];rfl
  have Hz:=A8 hz
  clear hz
  gi_wp2
  have hK':=(KeepsOthers.setCell W ⟨w.heap.size+1,0,none⟩ (.int .i64 0)).same D _ hK rfl
  have hc:=((CellsKept.putObj (.deferred none) hK' rfl).boxed (h2.set (.int .i64 0))).cell
  exact Bi hK' (v:=.int .i64 0) (by simp [results,Tryz.results125,go_sem,hc])
   ⟨by rw [Hz.out],hw0.trans (((ho.setCell (by simp) _).putObj hD _).toBelow (by simp;omega) (by simp))⟩
 case stop =>
  rintro D k W hk hD ho ⟨r,h1,h2⟩ hK
  have hz:=A8 (Gp hk h2)
  gi_wp2
  have hc:=((CellsKept.putObj (.deferred none) hK rfl).boxed h1).cell
  exact Bi hK (v:=.int .i64 r) (by simp [results,Tryz.results125,go_sem,hc])
   ⟨by rw [hz.out],hw0.trans ((ho.putObj hD _).toBelow (by simp;omega) (by simp))⟩
theorem CW (v u:Value) (xs ys:List Int) (w:World) (hv:Sl w v xs) (hu:Sl w u ys) :
  Calls Tryz.prog 125 #[v,u] w fun e w'=>e=.returned (.int .i64 (cmpL xs ys))∧Below w.heap.size w w':=by
 by_cases hl:xs.length=ys.length
 ·unfold cmpL;rw [if_pos hl];exact IS v u xs ys w hv hu hl
 ·exact Gn v u xs ys w hv hu hl
/-! ### What it says of numbers -/
theorem AA {a b:Int} (h:a<b):Lib.compareInt a b=-1:=if_pos h
theorem AB {a b:Int} (h:b<a):Lib.compareInt a b=1:=by unfold Lib.compareInt;rw [if_neg (by omega:¬ a<b),if_pos h]
theorem BK (a:Int):Lib.compareInt a a=0:=by unfold Lib.compareInt;rw [if_neg (by omega:¬ a<a),if_neg (by omega:¬ a > a)]
theorem EE (a b c:Int):Lib.compareInt (a+c) (b+c)=Lib.compareInt a b:=by
 rcases Int.lt_trichotomy a b with h | rfl | h
 ·rw [AA h,AA (by omega)]
 ·rw [BK,BK]
 ·rw [AB h,AB (by omega)]
theorem EF (b:Int) (hb:1<b) {xs ys:List Int} (hx:Dig b xs) (hy:Dig b ys):∀ k,k≤xs.length→k≤ys.length→cmpTop xs ys k=Lib.compareInt (val b (xs.take k)) (val b (ys.take k))
 | 0,_,_=>by simp [cmpTop,Lib.compareInt]
 | k+1,h1,h2=>by
  have ex:val b (xs.take (k+1))=val b (xs.take k)+gi xs k*b ^ k:=by rw [BB (by omega),Br,List.length_take,Nat.min_eq_left (by omega)]
  have ey:val b (ys.take (k+1))=val b (ys.take k)+gi ys k*b ^ k:=by rw [BB (by omega),Br,List.length_take,Nat.min_eq_left (by omega)]
  have bx:=Ay hb (hx.take k)
  have bY:=Ay hb (hy.take k)
  rw [List.length_take,Nat.min_eq_left (by omega)] at bx bY
  rw [ex,ey,cmpTop]
  by_cases he:gi xs k=gi ys k
  ·rw [if_pos he,EF b hb hx hy k (by omega) (by omega),he,EE]
  ·rw [if_neg he]
   by_cases c1:gi xs k<gi ys k
   ·have:(gi xs k+1)*b ^ k≤gi ys k*b ^ k:=Int.mul_le_mul_of_nonneg_right (by omega) (Int.le_of_lt (Bg (by omega) k))
    rw [Int.add_mul,Int.one_mul] at this
    rw [AA c1,AA (by omega)]
   ·have:(gi ys k+1)*b ^ k≤gi xs k*b ^ k:=Int.mul_le_mul_of_nonneg_right (by omega) (Int.le_of_lt (Bg (by omega) k))
    rw [Int.add_mul,Int.one_mul] at this
    rw [AB (by omega),AB (by omega)]
theorem EG {xs ys:List Int} {a b:Int} (hx:Num 10000 xs a) (hy:Num 10000 ys b):cmpL xs ys=Lib.compareInt a b:=by
 unfold cmpL
 by_cases hl:xs.length=ys.length
 ·rw [if_pos hl,EF 10000 (by decide) hx.dig hy.dig _ (Aa _) (by omega),List.take_length,hl,List.take_length,hx.val,hy.val]
 ·rw [if_neg hl]
  by_cases c:xs.length<ys.length
  ·rw [AA (by omega),AA (hx.len_lt (by decide) hy c)]
  ·rw [AB (by omega),AB (hy.len_lt (by decide) hx (by omega))]
end
end Go.Proofs.YtcmomjnailihpaaGreatDoor
/- The contract of number.times. -/
namespace Go.Proofs.YtcmomjnailihpaaGreatDoor
section
open Go.RowKit Go.Shelf
attribute [local go_sem] Oper.semAt_some
theorem List.reverseRecOn' {α:Type} {motive:List α→Prop} (l:List α) (nil:motive []) (snoc:∀ pre x,motive pre→motive (pre++[x])):motive l:=by
 have:∀ k:List α,motive k.reverse:=by
  intro k
  induction k with
  | nil=>exact nil
  | cons a k ih=>rw [List.reverse_cons];exact snoc _ _ ih
 have h:=this l.reverse
 rwa [List.reverse_reverse] at h
def horn (a:Int) (ys:List Int):List (Fin ys.length)→Int:=fun pre=>pre.foldl (fun s x=>s*10000+a*gi ys x.1) 0
theorem DS (a:Int) (ys:List Int) (pre:List (Fin ys.length)) (x:Fin ys.length):horn a ys (pre++[x])=horn a ys pre*10000+a*gi ys x.1:=by
 unfold horn;rw [List.foldl_append];rfl
theorem Hf {a:Int} (ha:0≤a) {ys:List Int} (hy:Dig 10000 ys) (pre:List (Fin ys.length)):0≤horn a ys pre∧horn a ys pre≤a*(10000 ^ pre.length-1):=by
 induction pre using Go.Proofs.YtcmomjnailihpaaGreatDoor.List.reverseRecOn' with
 | nil=>simp [horn]
 | snoc pre x ih =>
  rw [DS,List.length_append]
  have hd:=hy.gi (by decide) x.1
  have h1:0≤a*gi ys x.1:=Int.mul_nonneg ha hd.1
  have h2:a*gi ys x.1≤a*9999:=Int.mul_le_mul_of_nonneg_left (by omega) ha
  refine ⟨by omega,?_⟩
  have e:a*(10000 ^ (pre.length+[x].length)-1)=a*(10000 ^ pre.length-1)*10000+a*9999:=by
   simp only [List.length_cons,List.length_nil,Nat.zero_add,Int.pow_succ,Int.mul_sub,Int.sub_mul]
   rw [Int.mul_assoc];omega
  rw [e];omega
theorem EH (a:Int) (ys:List Int):∀ k,k≤ys.length→horn a ys (downs ys.length k)=a*val 10000 (ys.drop (ys.length-k))
 | 0,_=>by simp [downs,horn,val]
 | k+1,h=>by
  rw [AK (by omega),DS,EH a ys k (by omega)]
  have e:ys.drop (ys.length-(k+1))=gi ys (ys.length-1-k) :: ys.drop (ys.length-k):=by
   rw [show ys.length-(k+1)=ys.length-1-k by omega,List.drop_eq_getElem_cons (by omega),Bo (by omega),show ys.length-1-k+1=ys.length-k by omega]
  rw [e]
  simp only [val,Int.mul_add]
  rw [Int.mul_assoc,Int.mul_comm (val _ _) 10000]
  omega
theorem Lp (a:Int) (ys:List Int):horn a ys (downs ys.length ys.length)=a*val 10000 ys:=by
 rw [EH a ys _ (Aa _),Nat.sub_self,List.drop_zero]
theorem Lq {xs ys zs:List Int} (hx:Dig 10000 xs) (hy:Dig 10000 ys) {pre:List (Fin ys.length)} (hz:Num 10000 zs (horn (val 10000 xs) ys pre)):zs.length≤xs.length+pre.length:=by
 have h1:=Ay (show (1:Int)<10000 by decide) hx
 have h2:=(Hf h1.1 hy pre).2
 refine hz.length_le (by decide) ?_
 have p1:=Bg (show (0:Int)<10000 by decide) pre.length
 have h3:val 10000 xs*(10000 ^ pre.length-1)≤10000 ^ xs.length*(10000 ^ pre.length-1):=Int.mul_le_mul_of_nonneg_right (by omega) (by omega)
 have p2:=Bg (show (0:Int)<10000 by decide) xs.length
 simp only [Int.mul_sub,Int.mul_one] at h2 h3
 rw [Int.pow_add]
 omega
theorem Lr {xs rs:List Int} {d:Int} (hx:Dig 10000 xs) (hn:Num 10000 rs (val 10000 xs*d)) (hl:xs.length≤99999) (h1:d≤9999):rs.length≤100000:=by
 have hv:=Ay (show (1:Int)<10000 by decide) hx
 have p2:=Bg (show (0:Int)<10000 by decide) xs.length
 have h2:val 10000 xs*d≤val 10000 xs*9999:=Int.mul_le_mul_of_nonneg_left h1 hv.1
 have:=hn.length_le (show (1:Int)<10000 by decide) (m:=xs.length+1) (by rw [Int.pow_succ];omega)
 omega
theorem Ef {W w1 w2:World} {H:Nat} {vl vo r:Value} {xs zs rs ts os ys:List Int} {pre:List (Fin ys.length)} {x:Fin ys.length} (W0:World) (h1:Boxed W H 112 vl) (h2:Sl W vl xs) (h3:Boxed W (H+1) 112 vo) (hvo:∀ n,vo≠.int .i64 n)
  (ho:Only [H+1] W0 W) (hb:Below W.heap.size W w1) (hb2:Below w1.heap.size w1 w2) (hr2:Sl w2 r ts) (h5:val 10000 zs=horn (val 10000 xs) ys pre) (hos:val 10000 os=val 10000 zs*10000) (hn:Num 10000 rs (val 10000 xs*gi ys x.1))
  (hn2:Num 10000 ts (val 10000 os+val 10000 rs)) :
  Only [H+1] W0 (w2.setCell ⟨H+1,0,none⟩ r)∧(Boxed (w2.setCell ⟨H+1,0,none⟩ r) H 112 vl∧Sl (w2.setCell ⟨H+1,0,none⟩ r) vl xs ∧
   ∃ vo zs,Boxed (w2.setCell ⟨H+1,0,none⟩ r) (H+1) 112 vo∧Sl (w2.setCell ⟨H+1,0,none⟩ r) vo zs∧Num 10000 zs (horn (val 10000 xs) ys (pre++[x]))):=by
 have g1:=Ai (Ai h1 hb) hb2
 have g3:=Ai (Ai h3 hb) hb2
 refine ⟨((ho.below hb).below hb2).setCell (by simp) _,Ar g1 (by omega) _,((h2.below hb).below hb2).setBox g3 hvo _,r,ts,g3.set r,hr2.setBox g3 hvo _,?_⟩
 rw [DS,←h5,←hos,←hn.val]
 exact hn2
theorem Kd (v u : Value) (xs ys : List Int) (w : World) (hv : Sl w v xs) (hu : Sl w u ys) (hx : Dig 10000 xs) (hy : Dig 10000 ys) (hlx : xs.length ≤ 1000) (hly : ys.length ≤ 1000) :
   Calls Tryz.prog 89 #[v, u] w (Gives w fun r w' => ∃ zs, Sl w' r zs ∧ Num 10000 zs (val 10000 xs * val 10000 ys)) := by
 have hvp := hu.ptr_lt
 refine (callsIn_wide (n := 5)).1 ?_
 refine callsIn_of_wp_marks Tryz.func89 rfl trivial ?_ rfl
 simp only [Tryz.ntmps89, List.size_toArray, List.length_cons, List.length_nil, Nat.reduceAdd, Nat.reduceSub, Array.replicate_succ, Array.replicate_zero, List.push_toArray, List.append_toArray, List.nil_append, List.cons_append]
 obtain ⟨a1, c1, rfl⟩ := hv.shape
 obtain ⟨a2, c2, rfl⟩ := hu.shape
 gi_wp2_with (refine ⟨trivial, ?_⟩; gi_at_call 121; refine (Eu Fence.wide 4 trivial rfl _ _ ⟨_, _, _, rfl⟩).mono ?_; rintro e w' ⟨rfl, rfl⟩)
 have hw0 : Below w.heap.size w (((w.alloc (.cells #[.slice a1 xs.length c1] 112)).alloc (.cells #[.slice none 0 0] 112)).alloc (.cells #[.slice a2 ys.length c2] 112)) := (((Below.refl _ _).alloc (Aa _) _).alloc (by simp) _).alloc (by simp; omega) _
 have b1 : Boxed (((w.alloc (.cells #[.slice a1 xs.length c1] 112)).alloc (.cells #[.slice none 0 0] 112)).alloc (.cells #[.slice a2 ys.length c2] 112)) w.heap.size 112 (.slice a1 xs.length c1) := ((Boxed.new w _ _).alloc _).alloc _
 have b2 : Boxed (((w.alloc (.cells #[.slice a1 xs.length c1] 112)).alloc (.cells #[.slice none 0 0] 112)).alloc (.cells #[.slice a2 ys.length c2] 112)) (w.heap.size + 1) 112 (.slice none 0 0) := by
   have := (Boxed.new (w.alloc (.cells #[.slice a1 xs.length c1] 112)) 112 (.slice none 0 0)).alloc (.cells #[.slice a2 ys.length c2] 112)
   rwa [World.size_alloc] at this
 have b3 : Boxed (((w.alloc (.cells #[.slice a1 xs.length c1] 112)).alloc (.cells #[.slice none 0 0] 112)).alloc (.cells #[.slice a2 ys.length c2] 112)) (w.heap.size + 1 + 1) 112 (.slice a2 ys.length c2) := by
   have := Boxed.new ((w.alloc (.cells #[.slice a1 xs.length c1] 112)).alloc (.cells #[.slice none 0 0] 112)) 112 (.slice a2 ys.length c2)
   rwa [World.size_alloc, World.size_alloc] at this
 have hv0 := hv.below hw0
 have hu0 := hu.below hw0
 refine Gl (w.heap.size + 1 + 1) [w.heap.size + 1] (.slice a2 ys.length c2) ys rfl b3.cell hu0 (by simp) (fun b o e => by have := hvp b o e; simp; omega) rfl
   (fun pre W => Boxed W w.heap.size 112 (.slice a1 xs.length c1) ∧ Sl W (.slice a1 xs.length c1) xs ∧ ∃ vo zs, Boxed W (w.heap.size + 1) 112 vo ∧ Sl W vo zs ∧ Num 10000 zs (horn (val 10000 xs) ys pre))
   (fun _ _ => False)
   (fun pre W W' ⟨h1, h2, vo, zs, h3, h4, h5⟩ k => ⟨k.boxed h1, k.sl h2, vo, zs, k.boxed h3, k.sl h4, h5⟩) (fun pre W W' h k => h)
   (fun pre W ⟨h1, h2, vo, zs, h3, h4, h5⟩ k hk => by simp at hk; subst hk; exact ⟨_, h3, rfl⟩) ⟨b1, hv0, _, [], b2, Sl.nil _, Dig.nil _, (fun k h => by cases h), rfl⟩
   (fun x => { tmps := #[.slice a1 xs.length c1, .slice a2 ys.length c2, .pointer (some ⟨w.heap.size, 0, none⟩), undef, .slice none 0 0, .pointer (some ⟨w.heap.size + 1, 0, none⟩), undef, .int .i64 (gi ys x.1), .slice a2 ys.length c2,
     .func (.func 147) #[] #[.pointer (some ⟨w.heap.size + 1 + 1, 0, none⟩)], .int .i64 (x.1 : Int), .int .i64 (gi ys x.1), undef, undef, undef, undef, undef, undef, undef, undef, undef, undef, undef, undef], defers := [] }) ?assign ?body ?done ?stop
 case assign =>
   intro l x W K hK
   gi_wp2
   exact hK
 case body =>
   rintro l pre x W ho ⟨h1, h2, vo, zs, h3, h4, h5⟩ hlen
   have hzl := Lq hx hy h5
   have hd := hy.gi (by decide) x.1
   have hc1 := h1.cell
   have hc3 := h3.cell
   have hf3 := h3.frozen
   obtain ⟨a3, c3, rfl⟩ := h4.shape
   cases zs with
   | nil =>
     have hmx : Tryz.prog.follows .mixedOrders = true := by kernel_rfl
     gi_wp2_with fail
     have k1 := h1; have k2 := h2; have k3 := h3; have k4 := h4
     have kO : Only [w.heap.size + 1] W W := Only.refl _ _
     have kv : val 10000 ([] : List Int) = val 10000 ([] : List Int) * 10000 := rfl
     have kd : Dig 10000 ([] : List Int) := Dig.nil _
     have kl : ([] : List Int).length ≤ 100000 := by simp
     have hvW := k2.below (Below.refl _ _).drew
     have h4W := k4.below (Below.refl _ _).drew
     have hbl := k3.lt
     gi_region_with (first
       | (refine ⟨trivial, ?_⟩
          gi_at_call 122
          refine (CallsIn.inRound l (callsIn_wide.2 (ED _ _ xs _ hvW hx (by omega) hd.1 (by omega)))).mono ?_
          rintro e w1 ⟨⟨r, rfl, rs, hr, hn, _⟩, hb⟩
          have hc3 := (hb.cell (p := ⟨w.heap.size + 1, 0, none⟩) hbl).trans hc3
          have hc1 := (hb.cell (p := ⟨w.heap.size, 0, none⟩) (Nat.lt_of_succ_lt hbl)).trans hc1
          have hf3 := (hb.frozen (p := ⟨w.heap.size + 1, 0, none⟩) hbl).trans hf3
          have hvo := h4W.below hb
          have hrl : rs.length ≤ 100000 := Lr hx hn (by omega) (by omega)
          have hbl2 := A9 hbl hb.size)
       | (refine ⟨trivial, ?_⟩
          gi_at_call 98
          refine (CallsIn.inRound l (callsIn_wide.2 (Dv _ _ _ rs _ hvo hr kd hn.dig kl hrl))).mono ?_
          rintro e w2 ⟨⟨r2, rfl, ts, hr2, hn2, _⟩, hb2⟩
          obtain ⟨a5, c5, rfl⟩ := hr2.shape
          have hc4 := (hb2.cell (p := ⟨w.heap.size + 1, 0, none⟩) hbl2).trans hc3
          have hf4 := (hb2.frozen (p := ⟨w.heap.size + 1, 0, none⟩) hbl2).trans hf3))
     all_goals gi_wp2
     all_goals exact Ef _ (Ai k1 (Below.refl _ _).drew) (k2.below (Below.refl _ _).drew) (Ai k3 (Below.refl _ _).drew) (fun n e => by cases e) (kO.below (Below.refl _ _).drew) hb hb2 hr2 h5.val kv hn hn2
   | cons z zs =>
     have hmx : Tryz.prog.follows .mixedOrders = true := by kernel_rfl
     have hpos : (0 : Int) < ((z :: zs).length : Int) := by simp
     have hbl : w.heap.size + 1 < W.heap.size := h3.lt
     gi_wp2_with (gi_at_builtin; refine Ee 112 Tryz.underlying112 rfl _ _ rfl rfl rfl (Gk W 0) (h4.below ((Below.refl _ W).alloc (Aa _) _)) (by simp at hzl ⊢; omega) (by decide) (by simp) ?_; intro g cap w0 hown hgr hbw; have hbw' := ((Below.refl _ W).alloc (Aa _) _).trans hbw; have hf0 := (hbw'.frozen (p := ⟨w.heap.size + 1, 0, none⟩) hbl).trans hf3; have hc0 := (hbw'.cell (p := ⟨w.heap.size + 1, 0, none⟩) hbl).trans hc3)
     have q3 := Ai h3 hbw'
     have k1 := Ar (Ai h1 hbw') (show w.heap.size ≠ w.heap.size + 1 by omega) (.slice (some ⟨g, 0, none⟩) (1 + (z :: zs).length) cap)
     have k2 := (h2.below hbw').setBox q3 (fun n e => by cases e) (.slice (some ⟨g, 0, none⟩) (1 + (z :: zs).length) cap)
     have k3 := q3.set (.slice (some ⟨g, 0, none⟩) (1 + (z :: zs).length) cap)
     have k4 := (Sl.of_own hown).setBox q3 (fun n e => by cases e) (.slice (some ⟨g, 0, none⟩) (1 + (z :: zs).length) cap)
     have kO : Only [w.heap.size + 1] W (w0.setCell ⟨w.heap.size + 1, 0, none⟩ (.slice (some ⟨g, 0, none⟩) (1 + (z :: zs).length) cap)) := ((Only.refl _ W).below hbw').setCell (by simp) _
     have kv : val 10000 (0 :: z :: zs) = val 10000 (z :: zs) * 10000 := by rw [val]; omega
     have kd : Dig 10000 (0 :: z :: zs) := fun y hy => by
       rcases List.mem_cons.1 hy with rfl | hy
       · omega
       · exact h5.dig y hy
     have kl : (0 :: z :: zs).length ≤ 100000 := by simp at hzl ⊢; omega
     generalize hWb : w0.setCell ⟨w.heap.size + 1, 0, none⟩ (.slice (some ⟨g, 0, none⟩) (1 + (z :: zs).length) cap) = Wb at *
     clear hWb hc1 hc3 hf3 hc0 hf0 hown hgr hbw hbw' q3
     have k4' : Sl Wb (.slice (some ⟨g, 0, none⟩) (1 + (z :: zs).length) cap) (0 :: z :: zs) := k4
     clear k4
     have k4 := k4'
     have hc1 := k1.cell
     have hc3 := k3.cell
     have hf3 := k3.frozen
     have hvW := k2.below (Below.refl _ _).drew
     have h4W := k4.below (Below.refl _ _).drew
     have hbl := k3.lt
     gi_region_with (first
       | (refine ⟨trivial, ?_⟩
          gi_at_call 122
          refine (CallsIn.inRound l (callsIn_wide.2 (ED _ _ xs _ hvW hx (by omega) hd.1 (by omega)))).mono ?_
          rintro e w1 ⟨⟨r, rfl, rs, hr, hn, _⟩, hb⟩
          have hc3 := (hb.cell (p := ⟨w.heap.size + 1, 0, none⟩) hbl).trans hc3
          have hc1 := (hb.cell (p := ⟨w.heap.size, 0, none⟩) (Nat.lt_of_succ_lt hbl)).trans hc1
          have hf3 := (hb.frozen (p := ⟨w.heap.size + 1, 0, none⟩) hbl).trans hf3
          have hvo := h4W.below hb
          have hrl : rs.length ≤ 100000 := Lr hx hn (by omega) (by omega)
          have hbl2 := A9 hbl hb.size)
       | (refine ⟨trivial, ?_⟩
          gi_at_call 98
          refine (CallsIn.inRound l (callsIn_wide.2 (Dv _ _ _ rs _ hvo hr kd hn.dig kl hrl))).mono ?_
          rintro e w2 ⟨⟨r2, rfl, ts, hr2, hn2, _⟩, hb2⟩
          obtain ⟨a5, c5, rfl⟩ := hr2.shape
          have hc4 := (hb2.cell (p := ⟨w.heap.size + 1, 0, none⟩) hbl2).trans hc3
          have hf4 := (hb2.frozen (p := ⟨w.heap.size + 1, 0, none⟩) hbl2).trans hf3))
     all_goals gi_wp2
     all_goals exact Ef _ (Ai k1 (Below.refl _ _).drew) (k2.below (Below.refl _ _).drew) (Ai k3 (Below.refl _ _).drew) (fun n e => by cases e) (kO.below (Below.refl _ _).drew) hb hb2 hr2 h5.val kv hn hn2
 case done =>
   rintro D W hD ho ⟨h1, h2, vo, zs, h3, h4, h5⟩ hK
   have hc3 := h3.cell
   gi_wp2
   refine Bi hK (v := vo) (results_tmp (t := 4) rfl _ _ _) ⟨⟨_, rfl, zs, (CellsKept.putObj (.deferred none) hK rfl).sl h4, by rw [← Lp]; exact h5⟩, hw0.trans ((ho.putObj hD _).toBelow (by simp; omega) (by simp))⟩
 case stop =>
   rintro D k W hk hD ho h hK
   exact h.elim
end
end Go.Proofs.YtcmomjnailihpaaGreatDoor
/- The contract of sort.Search. -/
namespace Go.Proofs.YtcmomjnailihpaaGreatDoor
section
open Go.RowKit
def Parts (p:Nat→Bool) (lo hi n:Nat):Prop:=(∀ j,lo=j+1→p j=false)∧(hi<n→p hi=true)
theorem IT (g:Nat) (cap:Array Value) (n:Nat) (p:Nat→Bool) (w:World) (hn:n≤1000000)
  (hE:∀ (args:Array Value) (w:World),(callFunc g args).run Tryz.prog w=.ok (.enter g args) w)
  (hF:∀ (W:World) (i:Nat),Below w.heap.size w W→i<n→Calls Tryz.prog g (#[.int .i64 i]++cap) W fun e W'=>e=.returned (.bool (p i))∧Below W.heap.size W W') :
  Calls Tryz.prog 128 #[.int .i64 n,.func (.func g) #[] cap] w (Gives w fun v _=>∃ i:Nat,v=.int .i64 i∧i≤n∧Parts p i i n):=by
 have HF:=A8 hF
 clear hF
 go_enter Tryz.func128,Tryz.ntmps128
 go_wp2
 go_outline
 go_loopw [5,6] (fun s5 s6 wr=>∃ (lo hi:Nat),s5=.int .i64 lo∧s6=.int .i64 hi∧lo≤hi∧hi≤n∧Hid (Parts p lo hi n)∧Below w.heap.size w wr)
  (fun s5 s6 _=>(intOf s6-intOf s5).toNat)
 case atStart=>exact ⟨0,n,rfl,rfl,by omega,by omega,(⟨fun j h=>(by omega),fun h=>(by omega)⟩:Parts p 0 n n),Below.refl _ _⟩
 case round =>
  obtain ⟨lo,hi,rfl,rfl,hlh,hin,hP,hnx⟩:=hrel
  by_cases hlt:lo<hi
  ·have hc:=HF.out wr ((lo+hi) / 2) hnx (by omega)
   rw [show (((lo+hi) / 2:Nat):Int)=((lo:Int)+(hi:Int)) / 2 by omega] at hc
   cases hp:p ((lo+hi) / 2) <;> rw [hp] at hc
   ·have Hp:=A8 hp
    clear hp
    go_wp2_with fail
    refine hc.mono ?_
    rintro e W' ⟨rfl,hb⟩
    go_wp2_with fail
    go_roundw
    case rel=>exact ⟨(lo+hi) / 2+1,hi,by rw [show ((lo:Int)+(hi:Int)) / 2+1=(((lo+hi) / 2+1:Nat):Int) by omega],rfl,by omega,hin,(⟨fun j h=>by rw [show j=(lo+hi) / 2 by omega];exact Hp.out,hP.out.2⟩:Parts p _ _ n),hnx.trans (hb.mono hnx.size)⟩
    case measure=>simp [intOf];omega
   ·have Hp:=A8 hp
    clear hp
    go_wp2_with fail
    refine hc.mono ?_
    rintro e W' ⟨rfl,hb⟩
    go_wp2_with fail
    go_roundw
    case rel=>exact ⟨lo,(lo+hi) / 2,rfl,by rw [show ((lo:Int)+(hi:Int)) / 2=(((lo+hi) / 2:Nat):Int) by omega],by omega,by omega,(⟨hP.out.1,fun _=>Hp.out⟩:Parts p _ _ n),hnx.trans (hb.mono hnx.size)⟩
    case measure=>simp [intOf];omega
  ·obtain rfl:lo=hi:=by omega
   go_wp2_with fail
   go_ret
   exact ⟨⟨_,rfl,lo,rfl,hin,hP.out⟩,hnx⟩
end
end Go.Proofs.YtcmomjnailihpaaGreatDoor
/- The contract of number.over. -/
namespace Go.Proofs.YtcmomjnailihpaaGreatDoor
section
open Go.RowKit Go.Shelf
attribute [local go_sem] Oper.semAt_some
def tooMuch (m r:Int) (d:Nat):Bool:=decide (r<m*(d+1))
theorem Hg {m r:Int} (d:Nat) {xs ys:List Int} (hx:Num 10000 xs (m*(d+1))) (hy:Num 10000 ys r):decide (0<cmpL xs ys)=tooMuch m r d:=by
 rw [EG hx hy]
 unfold tooMuch
 rcases Int.lt_trichotomy (m*(d+1)) r with h | h | h
 ·rw [AA h,decide_eq_false (by decide),decide_eq_false (by omega)]
 ·rw [h,BK,decide_eq_false (by decide),decide_eq_false (by omega)]
 ·rw [AB h,decide_eq_true (by decide),decide_eq_true (by omega)]
theorem Ke (d B8 B5 : Nat) (mv rv : Value) (ms rs : List Int) (m r : Int) (w : World) (h8 : w.cell? ⟨B8, 0, none⟩ = some (.func (.func 122) #[mv] #[])) (h5 : w.cell? ⟨B5, 0, none⟩ = some rv)
   (hm : Sl w mv ms) (hr : Sl w rv rs) (nm : Num 10000 ms m) (nr : Num 10000 rs r) (hlm : ms.length ≤ 1000) (hd : d < 9999) :
   Calls Tryz.prog 127 #[.int .i64 d, .pointer (some ⟨B8, 0, none⟩), .pointer (some ⟨B5, 0, none⟩)] w fun e w' => e = .returned (.bool (tooMuch m r d)) ∧ Below w.heap.size w w' := by
 have hb5 : B5 < w.heap.size := World.block_lt_of_cell? w _ h5
 have e1 : IntKind.i64.wrap ((d : Int) + 1) = (d : Int) + 1 := IntWalk.i64_in _ (by omega)
 have hmW := hm.below (Below.refl _ _).drew
 have hrW := hr.below (Below.refl _ _).drew
 go_enter Tryz.func127, Tryz.ntmps127
 go_wp2_with fail
 go_region_with (first
   | (go_at_call 122
      refine (ED _ _ ms _ hmW nm.dig (by omega) (by omega) (by omega)).mono ?_
      rintro e w1 ⟨⟨q, rfl, qs, hq, nq, _⟩, hb⟩
      have h5 := (hb.cell (p := ⟨B5, 0, none⟩) hb5).trans h5
      have hr1 := hrW.below hb)
   | (go_at_call 125
      refine (CW _ _ _ _ _ hq hr1).mono ?_
      rintro e w2 ⟨rfl, hb2⟩))
 all_goals go_wp2
 all_goals go_ret
 all_goals exact ⟨Ae (by rw [← Hg d (by rw [← nm.val]; exact nq) nr]), ((Below.refl _ _).drew.trans hb).trans (hb2.mono hb.size)⟩
def remQ (xs:List Int) (m:Int) (pre:List (Fin xs.length)):Int:=pre.foldl (fun r x=>(r*10000+gi xs x.1) % m) 0
def quoQ (xs:List Int) (m:Int) (pre:List (Fin xs.length)):List Int×Int:=pre.foldl (fun s x=>(s.1.set x.1 ((s.2*10000+gi xs x.1) / m),(s.2*10000+gi xs x.1) % m)) (List.replicate xs.length 0,0)
theorem D5 (xs:List Int) (m:Int) (pre:List (Fin xs.length)) (x:Fin xs.length):remQ xs m (pre++[x])=(remQ xs m pre*10000+gi xs x.1) % m:=by
 unfold remQ;rw [List.foldl_append];rfl
theorem Ls (xs:List Int) (m:Int) (pre:List (Fin xs.length)):(quoQ xs m pre).2=remQ xs m pre:=by
 induction pre using Go.Proofs.YtcmomjnailihpaaGreatDoor.List.reverseRecOn' with
 | nil=>rfl
 | snoc pre x ih=>rw [D5,←ih];unfold quoQ;rw [List.foldl_append];rfl
theorem Cm (xs:List Int) (m:Int) (pre:List (Fin xs.length)) (x:Fin xs.length):(quoQ xs m (pre++[x])).1=(quoQ xs m pre).1.set x.1 ((remQ xs m pre*10000+gi xs x.1) / m):=by
 rw [←Ls];unfold quoQ;rw [List.foldl_append];rfl
theorem Hh (xs:List Int) (m:Int) (pre:List (Fin xs.length)):(quoQ xs m pre).1.length=xs.length:=by
 induction pre using Go.Proofs.YtcmomjnailihpaaGreatDoor.List.reverseRecOn' with
 | nil=>simp [quoQ]
 | snoc pre x ih=>rw [Cm,List.length_set,ih]
theorem Cg {xs:List Int} {m:Int} (hm:0<m) (pre:List (Fin xs.length)):0≤remQ xs m pre∧remQ xs m pre<m:=by
 induction pre using Go.Proofs.YtcmomjnailihpaaGreatDoor.List.reverseRecOn' with
 | nil=>exact ⟨Int.le_refl _,hm⟩
 | snoc pre x _=>rw [D5];exact ⟨Int.emod_nonneg _ (by omega),Int.emod_lt_of_pos _ hm⟩
theorem Hi {xs:List Int} (hx:Dig 10000 xs) {m:Int} (hm:0<m) (pre:List (Fin xs.length)) (x:Fin xs.length):0≤(remQ xs m pre*10000+gi xs x.1) / m∧(remQ xs m pre*10000+gi xs x.1) / m<10000:=by
 have h1:=Cg hm pre
 have h2:=hx.gi (by decide) x.1
 exact ⟨Int.ediv_nonneg (by omega) (by omega),Int.ediv_lt_of_lt_mul hm (by rw [Int.mul_comm 10000 m];omega)⟩
theorem Lt {xs:List Int} (hx:Dig 10000 xs) {m:Int} (hm:0<m) (pre:List (Fin xs.length)):Dig 10000 (quoQ xs m pre).1:=by
 induction pre using Go.Proofs.YtcmomjnailihpaaGreatDoor.List.reverseRecOn' with
 | nil=>intro y hy;simp [quoQ] at hy;omega
 | snoc pre x ih =>
  rw [Cm]
  intro y hy
  rcases List.mem_or_eq_of_mem_set hy with h | h
  ·exact ih y h
  ·subst h;exact Hi hx hm pre x
theorem JF (b:Int):∀ (l:List Int) (i:Nat) (y:Int),i<l.length→val b (l.set i y)=val b l+(y-gi l i)*b ^ i
 | [],i,_,h=>by simp at h
 | a :: l,0,y,_=>by simp only [A6,val,gi,List.getElem?_cons_zero,Option.getD_some,Int.pow_zero,Int.mul_one];omega
 | a :: l,i+1,y,h=>by
  have e:gi (a :: l) (i+1)=gi l i:=by simp [gi]
  rw [A5,val,val,JF b l i y (by simpa using h),e,Int.mul_add,Int.pow_succ]
  rw [Int.mul_comm (b ^ i) b,←Int.mul_assoc,←Int.mul_assoc,Int.mul_comm b (y-_)]
  omega
theorem gi_set {l:List Int} {i j:Nat} (y:Int) (h:i≠j):gi (l.set i y) j=gi l j:=by simp [gi,List.getElem?_set_ne h]
theorem FR (xs:List Int) (m:Int):∀ k,k≤xs.length→∀ j,j+k<xs.length→gi (quoQ xs m (downs xs.length k)).1 j=0
 | 0,_,j,_=>by simp [downs,quoQ,gi];rw [List.getElem?_replicate];split <;> rfl
 | k+1,h,j,hj=>by
  rw [AK (by omega),Cm,gi_set _ (by simp;omega)]
  exact FR xs m k (by omega) j (by omega)
theorem Hj (xs:List Int) (m:Int):∀ k,k≤xs.length →
  val 10000 (quoQ xs m (downs xs.length k)).1*m+remQ xs m (downs xs.length k)*10000 ^ (xs.length-k)+val 10000 (xs.take (xs.length-k))=val 10000 xs
 | 0,_=>by
  have e:val 10000 (List.replicate xs.length (0:Int))=0:=by
   generalize xs.length=n
   induction n with
   | zero=>rfl
   | succ n ih=>rw [List.replicate_succ,val,ih];rfl
  simp [downs,quoQ,remQ,e]
 | k+1,h=>by
  have ih:=Hj xs m k (by omega)
  rw [AK (by omega),D5,Cm,JF _ _ _ _ (by rw [Hh];simp;omega),FR xs m k (by omega) _ (by simp;omega)]
  rw [←ih]
  have e:xs.length-k=(xs.length-1-k)+1:=by omega
  have e2:xs.length-(k+1)=xs.length-1-k:=by omega
  rw [e,e2,BB (by omega),Br,List.length_take,Nat.min_eq_left (by omega),Int.pow_succ]
  simp only [Int.sub_zero]
  generalize hP:(10000:Int) ^ (xs.length-1-k)=P
  generalize hr:remQ xs m (downs xs.length k)=r
  generalize hg:gi xs (xs.length-1-k)=g
  generalize val 10000 (quoQ xs m (downs xs.length k)).1=q
  generalize val 10000 (xs.take (xs.length-1-k))=t
  have hd:(r*10000+g) / m*m+(r*10000+g) % m=r*10000+g:=by rw [Int.mul_comm];exact Int.mul_ediv_add_emod _ _
  have h3:(r*10000+g) / m*P*m+(r*10000+g) % m*P=(r*10000+g)*P:=by
   rw [←hd,Int.add_mul,hd,Int.mul_right_comm]
  have h4:(r*10000+g)*P=r*(P*10000)+g*P:=by
   rw [Int.add_mul,Int.mul_assoc,Int.mul_comm 10000 P]
  rw [Int.add_mul]
  omega
theorem Gq {xs:List Int} {m:Int} (hm:0<m):val 10000 (quoQ xs m (downs xs.length xs.length)).1=val 10000 xs / m∧remQ xs m (downs xs.length xs.length)=val 10000 xs % m:=by
 have h:=Hj xs m _ (Aa _)
 rw [Nat.sub_self,Int.pow_zero,Int.mul_one,List.take_zero,val,Int.add_zero] at h
 have hb:=Cg hm (downs xs.length xs.length)
 generalize val 10000 (quoQ xs m (downs xs.length xs.length)).1=q at *
 generalize remQ xs m (downs xs.length xs.length)=r at *
 rw [←h]
 constructor
 ·rw [Int.add_comm,Int.add_mul_ediv_right _ _ (by omega),Int.ediv_eq_zero_of_lt hb.1 hb.2,Int.zero_add]
 ·rw [Int.add_comm,Int.add_mul_emod_self_right,Int.emod_eq_of_lt hb.1 hb.2]
theorem Hk {m r:Int} (hm:0<m) (h0:0≤r) (h1:r<m*10000) {i:Nat} (hi:i≤9999) (hp:Parts (tooMuch m r) i i 9999):(i:Int)=r / m:=by
 have a1:m*i≤r:=by
  cases i with
  | zero=>simp;exact h0
  | succ j =>
   have:=hp.1 j rfl
   unfold tooMuch at this
   have:=of_decide_eq_false this
   rw [show ((j+1:Nat):Int)=(j:Int)+1 by omega];omega
 have a2:r<m*(i+1):=by
  by_cases h:i<9999
  ·exact of_decide_eq_true (hp.2 h)
  ·obtain rfl:i=9999:=by omega
   exact h1
 have b1:(i:Int)≤r / m:=(Int.le_ediv_iff_mul_le hm).2 (by rw [Int.mul_comm];exact a1)
 have b2:r / m<i+1:=Int.ediv_lt_of_lt_mul hm (by rw [Int.mul_comm];exact a2)
 omega
theorem quot_le {m r d:Int} {ys:List Int} (hm:0<m) (hd:d=r / m) (hy:Num 10000 ys m):val 10000 ys*d≤r∧r-val 10000 ys*d=r % m:=by
 rw [hy.val,hd]
 have h1:=Int.mul_ediv_add_emod r m
 have h2:=Int.emod_nonneg r (show m≠0 by omega)
 omega
structure OvW (H B8:Nat) (W:World) (mv qv rv:Value) (ys rs qs:List Int) (n:Nat):Prop where
 b1:Boxed W H 112 mv
 b2:Boxed W (H+1) 112 qv
 b3:Boxed W (H+1+1) 112 rv
 b8:Boxed W B8 153 (.func (.func 122) #[mv] #[])
 q:W.ownsRow (H+1+1+1) 3 1 qv n (qs.map (Value.int .i64))
 m:Sl W mv ys
 r:Sl W rv rs
def OvS (H B8:Nat) (mv qv:Value) (x:Nat) (d:Int) (W:World):Prop :=
 W.cell? ⟨H+1,0,none⟩=some qv∧W.cell? ⟨B8,0,none⟩=some (.func (.func 122) #[mv] #[])∧W.cell? ⟨H+1+1+1,x,none⟩=some (.int .i64 d)
theorem OvW.below {H B8:Nat} {W W':World} {mv qv rv:Value} {ys rs qs:List Int} {n:Nat} (h:OvW H B8 W mv qv rv ys rs qs n) (hb:Below W.heap.size W W'):OvW H B8 W' mv qv rv ys rs qs n :=
 ⟨Ai h.b1 hb,Ai h.b2 hb,Ai h.b3 hb,Ai h.b8 hb,As h.q hb,h.m.below hb,h.r.below hb⟩
theorem OvW.cellq {H B8:Nat} {W:World} {mv rv:Value} {ys rs qs:List Int} {n cap:Nat} (h:OvW H B8 W mv (.slice (some ⟨H+1+1+1,0,none⟩) n cap) rv ys rs qs n) (hl:qs.length=n) {j:Nat} (hj:j<n):W.cell? ⟨H+1+1+1,j,none⟩=some (.int .i64 (gi qs j)):=by
 have:=h.q.cellAt j (by omega)
 rw [this,List.getElem?_map,List.getElem?_eq_getElem (by omega),Bo (by omega)];rfl
theorem OvW.search {H B8:Nat} {W:World} {mv qv rv:Value} {ys rs qs:List Int} {n:Nat} {m r:Int} (h:OvW H B8 W mv qv rv ys rs qs n) (nm:Num 10000 ys m) (nr:Num 10000 rs r) (hly:ys.length≤1000) :
  Calls Tryz.prog 128 #[.int .i64 9999,.func (.func 127) #[] #[.pointer (some ⟨B8,0,none⟩),.pointer (some ⟨H+1+1,0,none⟩)]] W
   (Gives W fun v _=>∃ i:Nat,v=.int .i64 i∧i≤9999∧Parts (tooMuch m r) i i 9999) :=
 IT 127 _ 9999 (tooMuch m r) W (by decide) (Go.Proofs.enters_of Tryz.func127 (by kernel_rfl) rfl)
  (fun W' i hb hi=>Ke i B8 (H+1+1) mv rv ys rs m r W' (h.below hb).b8.cell (h.below hb).b3.cell (h.below hb).m (h.below hb).r nm nr hly hi)
theorem OvW.store {H B8:Nat} {W:World} {mv rv:Value} {ys rs qs:List Int} {n cap:Nat} (h:OvW H B8 W mv (.slice (some ⟨H+1+1+1,0,none⟩) n cap) rv ys rs qs n) (j:Nat) (d:Int) (h8:H+1+1+1<B8)
  (hm:∀ b o,mv.ptr? = some (b,o)→b<H) (hr:∀ b o,rv.ptr? = some (b,o)→b≠H+1+1+1) :
  OvW H B8 (W.setCell ⟨H+1+1+1,j,none⟩ (.int .i64 d)) mv (.slice (some ⟨H+1+1+1,0,none⟩) n cap) rv ys rs (qs.set j d) n:=by
 obtain ⟨g1,g2⟩:=h.q.stored j (.int .i64 d)
 have ho:Only [H+1+1+1] W (W.setCell ⟨H+1+1+1,j,none⟩ (.int .i64 d)):=(Only.refl _ _).setCell (by simp) _
 exact ⟨h.b1.kept g2 (by simp;omega),h.b2.kept g2 (by simp),h.b3.kept g2 (by simp),h.b8.kept g2 (by simp;omega),by rw [List.map_set];exact g1,
  h.m.only ho (fun b o e=>by have:=hm b o e;simp;omega),h.r.only ho (fun b o e=>by have:=hr b o e;simpa using this)⟩
end
end Go.Proofs.YtcmomjnailihpaaGreatDoor
/- A region that draws its order,in a round of a loop over an iterator: the loads first. -/
namespace Go.Proofs.YtcmomjnailihpaaGreatDoor
section
open Go.RowKit
theorem Fz {l n:Nat} {P:Program} {row:String} {args:Array Value} {w:World} {R:Value→World→Prop} (h:Rows P row args w R):RowsIn (Fence.wide.inRound l) n P row args w R :=
 fun c cs _=>let ⟨v,w',r,s⟩:=h c cs;⟨v,w',r,stepsIn_wide.2 s⟩
theorem FC {l n:Nat} {P:Program} {o:Oper} {K:Act→World→Prop} {Q:Exit→Act→World→Prop} {a:Act} {w:World} (hd:∀ c,o.op≠.defer c) (h:o.wp P a w K Q):o.wpIn (Fence.wide.inRound l) n P a w K Q:=by
 unfold Oper.wp at h
 unfold Oper.wpIn
 refine ⟨fun _ _=>trivial,?_⟩
 have e:o.semAt (Fence.wide.inRound l).round a.eval=execOp a.eval o:=Oper.semAt_some l _ _ hd
 rw [e]
 generalize (execOp a.eval o).run P w=r at *
 cases r with
 | ok x w' =>
  cases x with
  | value v=>exact h
  | skip=>exact h
  | defer d=>exact h
  | enter f args=>exact ⟨fun h0=>by simp [Fence.wide] at h0,CallsIn.inRound l (callsIn_wide.2 h)⟩
  | row row args=>exact ⟨fun h0=>by simp [Fence.wide] at h0,Fz h⟩
  | _=>exact h.elim
 | halt x w'=>cases x <;> simp only [Oper.upon,Oper.uponIn] at h ⊢ <;> exact h
def noDefer (o:Oper):Bool:=match o.op with | .defer _=>false | _=>true
theorem Gr {ops:Array Oper} (h:ops.all noDefer=true):∀ (i:Nat) (o:Oper),ops[i]? = some o→∀ c,o.op≠.defer c:=by
 intro i o ho c hc
 have:=Array.all_eq_true.1 h i (Array.getElem?_eq_some_iff.1 ho).1
 rw [(Array.getElem?_eq_some_iff.1 ho).2] at this
 unfold noDefer at this
 rw [hc] at this
 cases this
theorem Gs {l n:Nat} {P:Program} {md:Region.Mode} {ops:Array Oper} {Q:Exit→Act→World→Prop} (hd:∀ (i:Nat) (o:Oper),ops[i]? = some o→∀ c,o.op≠.defer c) (hQ:¬ LetsOut Q) :
  ∀ (fuel:Nat) (listed:Array Bool) (a:Act) (w:World),wpAny P md ops Q fuel listed a w→wpAnyIn (Fence.wide.inRound l) n P md ops Q fuel listed a w:=by
 intro fuel
 induction fuel with
 | zero=>exact fun _ _ _ h=>h
 | succ fuel ih =>
  intro listed a w h
  refine ⟨h.1,fun i hi=>?_⟩
  have h2:=h.2 i hi
  unfold wpOp at h2
  unfold wpOpIn
  cases ho:ops[i]? with
  | none=>simp only [ho] at h2 ⊢;exact ih _ _ _ h2
  | some o =>
   simp only [ho] at h2 ⊢
   split
   ·rename_i hw
    simp only [hw,if_true] at h2
    rcases h2 with h2 | ⟨_,h2⟩
    ·exact Oper.wpIn_mono (fun a w=>ih _ a w) (FC (hd i o ho) h2)
    ·exact absurd h2 hQ
   ·rename_i hw
    simp only [hw] at h2
    exact ⟨fun _ _=>trivial,ih _ _ _ h2⟩
theorem Dy {l n:Nat} {P:Program} {id:Nat} {ops:Array Oper} {S:World→Prop} {R:Act→World→Prop} {a:Act} {w:World} (hm:P.follows .mixedOrders=true) (hd:ops.all noDefer=true)
  (h:wpAnyH P .any ops (fun e a w=>e=.normal∧R a w) S ops.size (Array.replicate ops.size false) a w.drew):(Code.region id ops true).wpIn (Fence.wide.inRound l) n P (fun e a w=>e=.normal∧R a w) a w :=
 wpIn_region_any hm (Gs (Gr hd) (fun h=>by obtain ⟨_,_,h0,_⟩:=h;cases h0) _ _ _ _ (wpAny_of_held _ _ _ _ h))
section
variable {P:Program} {ops:Array Oper} {S:World→Prop} {o:Oper} {a:Act}
theorem DT {ty:TypeId} {p:Operand} {ad:Addr} {v:Value} (hg:o.guard=none) (ho:o.op=.load ty p) (hp:a.eval p=.pointer (some ad)) (hagg:∀ w,(isAgg ty).run P w=.ok false w) (hc:∀ w,S w→w.cell? ad=some v) :
  YieldsIf P ops S o v a:=by
 refine .inl ⟨by simp [Region.wanted,hg],fun w hs=>?_⟩
 have h:=hc w hs
 simp only [execOp,ho,hp]
 simp [go_sem,hagg,h]
theorem Kf {x:Operand} {v:Value} (hg:o.guard=none) (ho:o.op=.move x) (hv:a.eval x=v):YieldsIf P ops S o v a :=
 .inl ⟨by simp [Region.wanted,hg],fun w _=>by simp [execOp,ho,hv]⟩
theorem IU {ty e:TypeId} {x i:Operand} {b n cap k:Nat} {v:Value} (hg:o.guard=none) (ho:o.op=.indexAddr ty x i) (hx:a.eval x=.slice (some ⟨b,0,none⟩) n cap) (hi:a.eval i=.int .i64 (k:Nat)) (ht:P.underlying ty=some (.slice e)) (hk:k<n) (hz:∀ w,(Go.sizeOf e).run P w=.ok 1 w) (hv:v=.pointer (some ⟨b,k,none⟩)) :
  YieldsIf P ops S o v a:=by
 refine .inl ⟨by simp [Region.wanted,hg],fun w _=>?_⟩
 subst hv
 simp only [execOp,ho,hx,hi]
 simp [Instr.indexAt,run_underlying ht,asIntOf,hz,hk,AE]
variable {Q:Exit→Act→World→Prop} {md:Region.Mode}
theorem Cn {i:Nat} {dst:Option Tmp} {op:Op} {ty:TypeId} {ps:String} {af:Array Edge} {v:Value} {fuel:Nat} {l l':Array Bool} {t t':Array Value} {w:World} (hi:ops[i]? = some { dst:=dst,op:=op,type:=ty,pos:=ps,after:=af,guard:=none })
  (hs:Region.noSelect ops=true) (hf:Region.free md ops l i=true) (hr:(Region.ready md ops l).contains i=true) (hQ:∀ c a w,Q (.panic c) (a.put dst v) w→Q (.panic c) a w)
  (hy:YieldsIf P ops S { dst:=dst,op:=op,type:=ty,pos:=ps,after:=af,guard:=none } v { tmps:=t,defers:=[] }) (hS:S w) (hl:l.setIfInBounds i true=l') (ht:Act.put { tmps:=t,defers:=[] } dst v={ tmps:=t',defers:=[] })
  (h:wpAnyH P md ops Q S fuel l' { tmps:=t',defers:=[] } w):wpAnyH P md ops Q S (fuel+1) l { tmps:=t,defers:=[] } w:=by
 refine wpAnyH_take hi hs hf hr hQ hy hS ?_
 rw [hl]
 show wpAnyH P md ops Q S fuel l' (Act.put { tmps:=t,defers:=[] } dst v) w
 rw [ht];exact h
theorem BX {i:Nat} {dst:Option Tmp} {op:Op} {ty:TypeId} {ps:String} {af:Array Edge} {fuel:Nat} {l l':Array Bool} {w:World} (hi:ops[i]? = some { dst:=dst,op:=op,type:=ty,pos:=ps,after:=af,guard:=none })
  (hr:Region.ready md ops l=[i]) (hl:l.setIfInBounds i true=l')
  (h:Oper.wp P { dst:=dst,op:=op,type:=ty,pos:=ps,after:=af,guard:=none } a w (fun a' w'=>S w'∧wpAnyH P md ops Q S fuel l' a' w') Q):wpAnyH P md ops Q S (fuel+1) l a w:=by
 refine wpAnyH_all hr (by simp) (fun j hj=>?_)
 simp at hj
 subst hj
 unfold wpOp
 simp only [hi,hl]
 rw [if_pos (by simp [Region.wanted])]
 exact .inl h
theorem Lu {i j:Nat} {dst dst2:Option Tmp} {op op2:Op} {ty ty2:TypeId} {ps ps2:String} {af af2:Array Edge} {fuel:Nat} {l l' l2:Array Bool} {w:World} (hi:ops[i]? = some { dst:=dst,op:=op,type:=ty,pos:=ps,after:=af,guard:=none })
  (hj:ops[j]? = some { dst:=dst2,op:=op2,type:=ty2,pos:=ps2,after:=af2,guard:=none }) (hr:Region.ready md ops l=[i,j]) (hl:l.setIfInBounds i true=l') (hl2:l.setIfInBounds j true=l2)
  (h:Oper.wp P { dst:=dst,op:=op,type:=ty,pos:=ps,after:=af,guard:=none } a w (fun a' w'=>S w'∧wpAnyH P md ops Q S fuel l' a' w') Q)
  (h2:Oper.wp P { dst:=dst2,op:=op2,type:=ty2,pos:=ps2,after:=af2,guard:=none } a w (fun a' w'=>S w'∧wpAnyH P md ops Q S fuel l2 a' w') Q):wpAnyH P md ops Q S (fuel+1) l a w:=by
 refine wpAnyH_all hr (by simp) (fun k hk=>?_)
 simp at hk
 rcases hk with rfl | rfl
 ·unfold wpOp
  simp only [hi,hl]
  rw [if_pos (by simp [Region.wanted])]
  exact .inl h
 ·unfold wpOp
  simp only [hj,hl2]
  rw [if_pos (by simp [Region.wanted])]
  exact .inl h2
end
theorem Co {w:World} {p q:Addr} (h:q.block≠p.block) (u:Value):(w.setCell p u).cell? q=w.cell? q:=World.cell?_of_block (w:=w) (Below.heap_setCell w p u q.block h)
end
end Go.Proofs.YtcmomjnailihpaaGreatDoor
/- The contract of number.over: the walk. -/
namespace Go.Proofs.YtcmomjnailihpaaGreatDoor
section
open Go.RowKit Go.Shelf
attribute [local go_sem] Oper.semAt_some
theorem EI (v u : Value) (xs ys : List Int) (m : Int) (w : World) (hv : Sl w v xs) (hu : Sl w u ys) (hx : Dig 10000 xs) (hy : Num 10000 ys m) (hm : 0 < m) (hlx : xs.length ≤ 1000) (hly : ys.length ≤ 1000) :
   Calls Tryz.prog 97 #[v, u] w (Gives w fun r w' => ∃ r1 r2 qs rs, r = .tuple #[r1, r2] ∧ Sl w' r1 qs ∧ Num 10000 qs (val 10000 xs / m) ∧ Sl w' r2 rs ∧ Num 10000 rs (val 10000 xs % m)) := by
 have hvp := hv.ptr_lt
 refine (callsIn_wide (n := 5)).1 ?_
 refine callsIn_of_wp_marks Tryz.func97 rfl trivial ?_ rfl
 simp only [Tryz.ntmps97, List.size_toArray, List.length_cons, List.length_nil, Nat.reduceAdd, Nat.reduceSub, Array.replicate_succ, Array.replicate_zero, List.push_toArray, List.append_toArray, List.nil_append, List.cons_append]
 obtain ⟨a1, c1, rfl⟩ := hv.shape
 obtain ⟨a2, c2, rfl⟩ := hu.shape
 have hw0 : Below w.heap.size w (((w.alloc (.cells #[.slice a2 ys.length c2] 112)).alloc (.cells #[.slice none 0 0] 112)).alloc (.cells #[.slice none 0 0] 112)) := (((Below.refl _ _).alloc (Aa _) _).alloc (by simp) _).alloc (by simp; omega) _
 have b1 : Boxed (((w.alloc (.cells #[.slice a2 ys.length c2] 112)).alloc (.cells #[.slice none 0 0] 112)).alloc (.cells #[.slice none 0 0] 112)) w.heap.size 112 (.slice a2 ys.length c2) := ((Boxed.new w _ _).alloc _).alloc _
 have b2 : Boxed (((w.alloc (.cells #[.slice a2 ys.length c2] 112)).alloc (.cells #[.slice none 0 0] 112)).alloc (.cells #[.slice none 0 0] 112)) (w.heap.size + 1) 112 (.slice none 0 0) := by
   have := (Boxed.new (w.alloc (.cells #[.slice a2 ys.length c2] 112)) 112 (.slice none 0 0)).alloc (.cells #[.slice none 0 0] 112)
   rwa [World.size_alloc] at this
 have b3 : Boxed (((w.alloc (.cells #[.slice a2 ys.length c2] 112)).alloc (.cells #[.slice none 0 0] 112)).alloc (.cells #[.slice none 0 0] 112)) (w.heap.size + 1 + 1) 112 (.slice none 0 0) := by
   have := Boxed.new ((w.alloc (.cells #[.slice a2 ys.length c2] 112)).alloc (.cells #[.slice none 0 0] 112)) 112 (.slice none 0 0)
   rwa [World.size_alloc, World.size_alloc] at this
 have hs3 : (((w.alloc (.cells #[.slice a2 ys.length c2] 112)).alloc (.cells #[.slice none 0 0] 112)).alloc (.cells #[.slice none 0 0] 112)).heap.size = w.heap.size + 1 + 1 + 1 := by simp
 have Hs3 := A8 hs3
 clear hs3
 gi_wp2_with (first
   | (refine ⟨trivial, ?_⟩; gi_at_call 121; refine (Eu Fence.wide 4 trivial rfl _ _ ⟨_, _, _, rfl⟩).mono ?_; rintro e w' ⟨rfl, rfl⟩)
   | (gi_at_make; refine Fx 112 Tryz.underlying112 rfl _ _ rfl _ _ xs.length rfl rfl (by omega) ?_; intro w0 hown0 hb0; have q2 := Ai b2 hb0; have q2c := q2.cell; have q2f := q2.frozen))
 have q1 := Ai b1 hb0
 have q3 := Ai b3 hb0
 have hz0 := hb0.size
 rw [Hs3.out] at hz0
 have hv1 := (hv.below hw0).below hb0
 have hu1 := (hu.below hw0).below hb0
 have hw1 := hw0.trans (hb0.mono hw0.size)
 have hu2 := hu1.setBox q2 (fun n e => by cases e) (.slice (some ⟨w.heap.size + 1 + 1 + 1, 0, none⟩) xs.length xs.length)
 have hv2 := hv1.setBox q2 (fun n e => by cases e) (.slice (some ⟨w.heap.size + 1 + 1 + 1, 0, none⟩) xs.length xs.length)
 rw [Hs3.out] at hown0
 have hlt3 : w.heap.size + 1 + 1 + 1 < w0.heap.size := (hown0.lt _ rfl).2
 have p1 := (Ar q1 (show w.heap.size ≠ w.heap.size + 1 by omega) (.slice (some ⟨w.heap.size + 1 + 1 + 1, 0, none⟩) xs.length xs.length)).alloc (.cells #[.slice a1 xs.length c1] 112)
 have p2 := (q2.set (.slice (some ⟨w.heap.size + 1 + 1 + 1, 0, none⟩) xs.length xs.length)).alloc (.cells #[.slice a1 xs.length c1] 112)
 have p3 := (Ar q3 (show w.heap.size + 1 + 1 ≠ w.heap.size + 1 by omega) (.slice (some ⟨w.heap.size + 1 + 1 + 1, 0, none⟩) xs.length xs.length)).alloc (.cells #[.slice a1 xs.length c1] 112)
 have pq := (hown0.kept (grownBy_setCell' w0 (w.heap.size + 1) (.slice (some ⟨w.heap.size + 1 + 1 + 1, 0, none⟩) xs.length xs.length)) (.inr (by simp [Value.ownBlock]; omega))).alloc (.cells #[.slice a1 xs.length c1] 112)
 have pu := hu2.below ((Below.refl _ _).alloc (Aa _) (.cells #[.slice a1 xs.length c1] 112))
 have pv := hv2.below ((Below.refl _ _).alloc (Aa _) (.cells #[.slice a1 xs.length c1] 112))
 have pB : Boxed ((w0.setCell ⟨w.heap.size + 1, 0, none⟩ (.slice (some ⟨w.heap.size + 1 + 1 + 1, 0, none⟩) xs.length xs.length)).alloc (.cells #[.slice a1 xs.length c1] 112)) w0.heap.size 112 (.slice a1 xs.length c1) := by
   have := Boxed.new (w0.setCell ⟨w.heap.size + 1, 0, none⟩ (.slice (some ⟨w.heap.size + 1 + 1 + 1, 0, none⟩) xs.length xs.length)) 112 (.slice a1 xs.length c1)
   rwa [World.size_setCell] at this
 have pw : Below w.heap.size w ((w0.setCell ⟨w.heap.size + 1, 0, none⟩ (.slice (some ⟨w.heap.size + 1 + 1 + 1, 0, none⟩) xs.length xs.length)).alloc (.cells #[.slice a1 xs.length c1] 112)) := (hw1.setCell (p := ⟨w.heap.size + 1, 0, none⟩) (by simp) _).alloc (by have := hw1.size; simp; omega) _
 clear hv1 hu1 hu2 hv2 q1 q2 q3 q2c q2f hb0 hown0 b1 b2 b3 hw0 hw1 Hs3
 generalize hWL : (w0.setCell ⟨w.heap.size + 1, 0, none⟩ (.slice (some ⟨w.heap.size + 1 + 1 + 1, 0, none⟩) xs.length xs.length)).alloc (.cells #[.slice a1 xs.length c1] 112) = WL at *
 clear hWL
 generalize w0.heap.size = B0 at *
 refine Gl B0 [w.heap.size + 1 + 1, w.heap.size + 1 + 1 + 1] (.slice a1 xs.length c1) xs rfl pB.cell pv (by simp; omega) (fun b o e => by have := hvp b o e; simp; omega) rfl
   (fun pre W => Boxed W w.heap.size 112 (.slice a2 ys.length c2) ∧ Boxed W (w.heap.size + 1) 112 (.slice (some ⟨w.heap.size + 1 + 1 + 1, 0, none⟩) xs.length xs.length) ∧ (∃ rv rs, Boxed W (w.heap.size + 1 + 1) 112 rv ∧ Sl W rv rs ∧ Num 10000 rs (remQ xs m pre)) ∧
     W.ownsRow (w.heap.size + 1 + 1 + 1) 3 1 (.slice (some ⟨w.heap.size + 1 + 1 + 1, 0, none⟩) xs.length xs.length) xs.length ((quoQ xs m pre).1.map (Value.int .i64)) ∧ Sl W (.slice a2 ys.length c2) ys)
   (fun _ _ => False)
   (fun pre W W' ⟨h1, h2, ⟨rv, rs, h3, hr, nr⟩, hq, hm'⟩ k => ⟨k.boxed h1, k.boxed h2, ⟨rv, rs, k.boxed h3, k.sl hr, nr⟩, k.own hq, k.sl hm'⟩) (fun pre W W' h k => h)
   (fun pre W ⟨h1, h2, ⟨rv, rs, h3, hr, nr⟩, hq, hm'⟩ k hk => by
     simp at hk
     rcases hk with rfl | rfl
     · exact ⟨_, h3, rfl⟩
     · rcases hq.2 with ⟨h', _⟩ | ⟨g, cap, cur, h', _, hg, _⟩
       · cases h'
       · cases h'; exact ⟨_, hg, rfl⟩)
   ⟨p1, p2, ⟨_, [], p3, Sl.nil _, Dig.nil _, (fun k h => by cases h), rfl⟩, pq, pu⟩
   (fun x => { tmps := #[.slice a1 xs.length c1, .slice a2 ys.length c2, undef, .pointer (some ⟨w.heap.size, 0, none⟩), .pointer (some ⟨w.heap.size + 1, 0, none⟩), .pointer (some ⟨w.heap.size + 1 + 1, 0, none⟩), .int .i64 (x.1 : Int), .int .i64 (gi xs x.1), undef, undef,
     .slice a1 xs.length c1, .int .i64 xs.length, (.slice (some ⟨w.heap.size + 1 + 1 + 1, 0, none⟩) xs.length xs.length), .slice a1 xs.length c1, .func (.func 147) #[] #[.pointer (some ⟨B0, 0, none⟩)], .int .i64 (x.1 : Int), .int .i64 (gi xs x.1),
     undef, undef, undef, undef, undef, undef, undef, undef, undef, undef, undef, undef, undef, undef, undef, undef, undef, undef, undef, undef, undef, undef, undef, undef], defers := [] }) ?assign ?body ?done ?stop
 case assign =>
   intro l x W K hK
   gi_wp2
   exact hK
 case body =>
   rintro l pre x W ho ⟨h1, h2, ⟨rv, rs, h3, hr, nr⟩, hq, hm'⟩ hlen
   have hmx : Tryz.prog.follows .mixedOrders = true := by kernel_rfl
   have hc3 := h3.cell
   have hf3 := h3.frozen
   have hbl : w.heap.size + 1 + 1 < W.heap.size := h3.lt
   obtain ⟨a3, c3, rfl⟩ := hr.shape
   have hrl : rs.length ≤ 1000 := by
     have hb := Cg (xs := xs) hm pre
     have := nr.length_le (show (1 : Int) < 10000 by decide) (m := ys.length) (Int.lt_trans hb.2 (hy.lt (by decide)))
     omega
   gi_wp2_with (first
     | (gi_at_builtin; refine Ee 112 Tryz.underlying112 rfl _ _ rfl rfl rfl (Gk W (gi xs x.1)) (hr.below ((Below.refl _ W).alloc (Aa _) _)) (by omega) (by decide) (by simp) ?_
        intro g cap w1 hown hgr hbw
        have hbw' := ((Below.refl _ W).alloc (Aa _) _).trans hbw
        have hf0 := (hbw'.frozen (p := ⟨w.heap.size + 1 + 1, 0, none⟩) hbl).trans hf3
        have hc0 := (hbw'.cell (p := ⟨w.heap.size + 1 + 1, 0, none⟩) hbl).trans hc3
        have hcm0 := (hbw'.cell (p := ⟨w.heap.size, 0, none⟩) h1.lt).trans h1.cell)
     | (refine ⟨trivial, ?_⟩
        gi_at_call 126
        refine (CallsIn.inRound l (callsIn_wide.2 (Bp _ ([gi xs x.1] ++ rs) _ (Sl.of_own hown)))).mono ?_
        rintro e w' ⟨⟨r2, rfl, hz2, hp2⟩, rfl⟩
        obtain ⟨a5, c5, rfl⟩ := hz2.shape))
   -- the memory behind the first statements of the round
   have hrem := Cg (xs := xs) hm pre
   have hgx := hx.gi (by decide) x.1
   have nt : Num 10000 (trim (gi xs x.1 :: rs)) (remQ xs m pre * 10000 + gi xs x.1) := by
     have h := Num.trim (b := 10000) (xs := gi xs x.1 :: rs) (fun y hy => by
       rcases List.mem_cons.1 hy with rfl | hy
       · exact hgx
       · exact nr.dig y hy)
     rw [val, nr.val] at h
     rw [show remQ xs m pre * 10000 + gi xs x.1 = gi xs x.1 + 10000 * remQ xs m pre by omega]; exact h
   have hqp : W.heap.size ≤ g := by
     rcases hown.2 with ⟨h', _⟩ | ⟨g', cap', cur, h', hg, _⟩
     · cases h'
     · cases h'; exact hg
   have hsz1 := hbw'.size
   have hqlt : w.heap.size + 1 + 1 + 1 < W.heap.size := (hq.lt (w.heap.size + 1 + 1 + 1) rfl).2
   have q1 := Ai h1 hbw'
   have q2 := Ai h2 hbw'
   have q3 := Ai h3 hbw'
   have qq := As hq hbw'
   have qm := hm'.below hbw'
   have hS0 : OvW w.heap.size w1.heap.size ((w1.setCell ⟨w.heap.size + 1 + 1, 0, none⟩ (.slice a5 (trim (gi xs x.1 :: rs)).length c5)).alloc (.cells #[.func (.func 122) #[.slice a2 ys.length c2] #[]] 153))
       (.slice a2 ys.length c2) (.slice (some ⟨w.heap.size + 1 + 1 + 1, 0, none⟩) xs.length xs.length) (.slice a5 (trim (gi xs x.1 :: rs)).length c5) ys (trim (gi xs x.1 :: rs)) (quoQ xs m pre).1 xs.length := by
     refine ⟨(Ar q1 (by omega) _).alloc _, (Ar q2 (by omega) _).alloc _, (q3.set _).alloc _, ?_, (qq.kept (grownBy_setCell' _ _ _) (.inr (by simp [Value.ownBlock]))).alloc _, (qm.setBox q3 (fun n e => by cases e) _).below ((Below.refl _ _).alloc (Aa _) _), (hz2.setBox q3 (fun n e => by cases e) _).below ((Below.refl _ _).alloc (Aa _) _)⟩
     have := Boxed.new (w1.setCell ⟨w.heap.size + 1 + 1, 0, none⟩ (.slice a5 (trim (gi xs x.1 :: rs)).length c5)) 153 (.func (.func 122) #[.slice a2 ys.length c2] #[])
     rwa [World.size_setCell] at this
   have hO : Only [w.heap.size + 1 + 1, w.heap.size + 1 + 1 + 1] W ((w1.setCell ⟨w.heap.size + 1 + 1, 0, none⟩ (.slice a5 (trim (gi xs x.1 :: rs)).length c5)).alloc (.cells #[.func (.func 122) #[.slice a2 ys.length c2] #[]] 153)) :=
     (((Only.refl _ _).below hbw').setCell (by simp) _).alloc _
   have hr5 : ∀ b o, (Value.slice a5 (trim (gi xs x.1 :: rs)).length c5).ptr? = some (b, o) → b ≠ w.heap.size + 1 + 1 + 1 := fun b o e => by
     have e' : (Value.slice (some ⟨g, 0, none⟩) (1 + rs.length) cap).ptr? = some (b, o) := hp2.symm.trans e
     have e2 : g = b := by simpa [Go.Value.ptr?] using congrArg (Option.map Prod.fst) e'
     omega
   have h8 : w.heap.size + 1 + 1 + 1 < w1.heap.size := A9 hqlt hsz1
   have hmp : ∀ b o, (Value.slice a2 ys.length c2).ptr? = some (b, o) → b < w.heap.size := hu.ptr_lt
   clear q1 q2 q3 qq qm hc0 hf0 hcm0 hc3 hf3 hown hgr hbw hz2 hp2
   generalize (w1.setCell ⟨w.heap.size + 1 + 1, 0, none⟩ (.slice a5 (trim (gi xs x.1 :: rs)).length c5)).alloc (.cells #[.func (.func 122) #[.slice a2 ys.length c2] #[]] 153) = Wc at *
   clear hbw' hsz1
   generalize w1.heap.size = B8 at *
   clear w1
   have hql := Hh xs m pre
   have htl : (trim (gi xs x.1 :: rs)).length ≤ 100000 := Nat.le_trans (Lj _) (by simp; omega)
   have hxl := x.2
   refine Go.wpIn_mono (Q := fun e a' w' => e = .normal ∧ ∃ d : Nat, a' = { tmps := #[.slice a1 xs.length c1, .slice a2 ys.length c2, undef, .pointer (some ⟨w.heap.size, 0, none⟩), .pointer (some ⟨w.heap.size + 1, 0, none⟩), .pointer (some ⟨w.heap.size + 1 + 1, 0, none⟩), .int .i64 (x.1 : Int), .int .i64 (gi xs x.1), .pointer (some ⟨B8, 0, none⟩),
       .func (.func 127) #[] #[.pointer (some ⟨B8, 0, none⟩), .pointer (some ⟨w.heap.size + 1 + 1, 0, none⟩)], .slice a1 xs.length c1, .int .i64 xs.length, (.slice (some ⟨w.heap.size + 1 + 1 + 1, 0, none⟩) xs.length xs.length), .slice a1 xs.length c1, .func (.func 147) #[] #[.pointer (some ⟨B0, 0, none⟩)], .int .i64 (x.1 : Int), .int .i64 (gi xs x.1),
       .int .i64 (gi xs x.1), .slice (some ⟨W.heap.size, 0, none⟩) 1 1, .slice a3 rs.length c3, .slice (some ⟨g, 0, none⟩) (1 + rs.length) cap, .slice a5 (trim (gi xs x.1 :: rs)).length c5, .slice a2 ys.length c2, .func (.func 122) #[.slice a2 ys.length c2] #[],
       .func (.func 127) #[] #[.pointer (some ⟨B8, 0, none⟩), .pointer (some ⟨w.heap.size + 1 + 1, 0, none⟩)], (.slice (some ⟨w.heap.size + 1 + 1 + 1, 0, none⟩) xs.length xs.length), .int .i64 (x.1 : Int), .func (.func 127) #[] #[.pointer (some ⟨B8, 0, none⟩), .pointer (some ⟨w.heap.size + 1 + 1, 0, none⟩)], .int .i64 (d : Nat), .pointer (some ⟨w.heap.size + 1 + 1 + 1, x.1, none⟩),
       undef, undef, undef, undef, undef, undef, undef, undef, undef, undef, undef], defers := [] } ∧ (d : Int) = (remQ xs m pre * 10000 + gi xs x.1) / m ∧ d ≤ 9999 ∧
     OvW w.heap.size B8 w' (.slice a2 ys.length c2) (.slice (some ⟨w.heap.size + 1 + 1 + 1, 0, none⟩) xs.length xs.length) (.slice a5 (trim (gi xs x.1 :: rs)).length c5) ys (trim (gi xs x.1 :: rs)) ((quoQ xs m pre).1.set x.1 d) xs.length ∧ Only [w.heap.size + 1 + 1, w.heap.size + 1 + 1 + 1] W w') ?_ ?_
   · have hS := hS0.below (Below.refl _ Wc).drew
     have cQ := hS0.b2.cell
     gi_region_with (refine ⟨trivial, ?_⟩
                     gi_at_call 128
                     refine (CallsIn.inRound l (callsIn_wide.2 (hS.search hy nt hly))).mono ?_
                     rintro e w3 ⟨⟨v3, rfl, d, rfl, hd, hP⟩, hb3⟩
                     have hS3 := hS.below hb3
                     have cQ3 := hS3.b2.cell
                     have cR := hS3.cellq hql hxl
                     have fR := hS3.q.frozenAt x.1)
     all_goals exact ⟨rfl, d, rfl, Hk hm (by omega) (by omega) hd hP, hd, hS3.store x.1 d h8 hmp hr5, ((hO.below (Below.refl _ _).drew).below hb3).setCell (by simp) _⟩
   · rintro e a' Wd ⟨rfl, d, rfl, hdq, hd, hSd, hOd⟩
     clear hS0 hO
     have Hdq := A8 hdq
     clear hdq
     have hql2 : ((quoQ xs m pre).1.set x.1 d).length = xs.length := by rw [List.length_set, hql]
     have cQ := hSd.b2.cell
     have cR := hSd.b3.cell
     have fR := hSd.b3.frozen
     have c8 := hSd.b8.cell
     have cD : Wd.cell? ⟨w.heap.size + 1 + 1 + 1, x.1, none⟩ = some (.int .i64 d) := by
       have := hSd.cellq hql2 hxl
       rwa [show gi ((quoQ xs m pre).1.set x.1 d) x.1 = d by simp [gi, hql]] at this
     have hSe := hSd.below (Below.refl _ Wd).drew
     gi_wp2_with fail
     refine Go.wpIn_mono (Q := fun e _ w' => e = .normal ∧ ∃ rm ms w5, w' = w5.setCell ⟨w.heap.size + 1 + 1, 0, none⟩ rm ∧ OvW w.heap.size B8 w5 (.slice a2 ys.length c2) (.slice (some ⟨w.heap.size + 1 + 1 + 1, 0, none⟩) xs.length xs.length) (.slice a5 (trim (gi xs x.1 :: rs)).length c5) ys (trim (gi xs x.1 :: rs)) ((quoQ xs m pre).1.set x.1 d) xs.length ∧
       Sl w5 rm ms ∧ Num 10000 ms ((remQ xs m pre * 10000 + gi xs x.1) % m) ∧ Wd.heap.size ≤ w5.heap.size ∧ Fresh Wd rm ∧ Below Wd.heap.size Wd w5) ?_ ?_
     · rename_i Q1 K1 A1 Q2
       clear hOd hSd hql2 hql hmp hr5 hqlt hqp hrem hgx Q2 hr hrl h3 hbl hlen hm' hq nr h2 h1 ho pB hlt3 hz0 pw pv pu pq p3 p2 p1 A1 K1 Q1 hvp hv hu
       generalize hTR : trim (gi xs x.1 :: rs) = tr at *
       generalize hQQ : (quoQ xs m pre).1.set x.1 ↑d = qq at *
       generalize hRM : remQ xs m pre * 10000 + gi xs x.1 = r' at *
       clear hTR hQQ hRM
       have hle := quot_le hm Hdq.out hy
       have hSof : ∀ W', OvW w.heap.size B8 W' (.slice a2 ys.length c2) (.slice (some ⟨w.heap.size + 1 + 1 + 1, 0, none⟩) xs.length xs.length) (.slice a5 tr.length c5) ys tr qq xs.length → OvS w.heap.size B8 (.slice a2 ys.length c2) (.slice (some ⟨w.heap.size + 1 + 1 + 1, 0, none⟩) xs.length xs.length) x.1 d W' := fun W' h => by
         refine ⟨h.b2.cell, h.b8.cell, ?_⟩
         rw [← cD]
         exact (h.q.cellAt x.1 (by omega)).trans (hSe.q.cellAt x.1 (by omega)).symm
       have hS0 := hSof _ hSe
       have cRe := hSe.b3.cell
       refine Dy (S := OvS w.heap.size B8 (.slice a2 ys.length c2) (.slice (some ⟨w.heap.size + 1 + 1 + 1, 0, none⟩) xs.length xs.length) x.1 d) hmx (by kernel_rfl) ?_
       refine Cn (i := 1) rfl (by kernel_rfl) (by kernel_rfl) (by kernel_rfl) (fun _ _ _ h => by cases h.1) (DT (v := .func (.func 122) #[.slice a2 ys.length c2] #[]) rfl rfl rfl (Go.Proofs.run_isAgg_plain Tryz.underlying153 rfl) (fun W' h => h.2.1)) hS0 (l' := #[false, true, false, false, false, false, false, false, false]) (by kernel_rfl) rfl ?_
       simp only [A0, A6, A5]
       refine Cn (i := 2) rfl (by kernel_rfl) (by kernel_rfl) (by kernel_rfl) (fun _ _ _ h => by cases h.1) (DT (v := (.slice (some ⟨w.heap.size + 1 + 1 + 1, 0, none⟩) xs.length xs.length)) rfl rfl rfl (Go.Proofs.run_isAgg_plain Tryz.underlying112 rfl) (fun W' h => h.1)) hS0 (l' := #[false, true, true, false, false, false, false, false, false]) (by kernel_rfl) rfl ?_
       simp only [A0, A6, A5]
       refine Cn (i := 3) rfl (by kernel_rfl) (by kernel_rfl) (by kernel_rfl) (fun _ _ _ h => by cases h.1) (Kf (v := .int .i64 (x.1 : Int)) rfl rfl rfl) hS0 (l' := #[false, true, true, true, false, false, false, false, false]) (by kernel_rfl) rfl ?_
       simp only [A0, A6, A5]
       refine Cn (i := 4) rfl (by kernel_rfl) (by kernel_rfl) (by kernel_rfl) (fun _ _ _ h => by cases h.1) (IU (v := .pointer (some ⟨w.heap.size + 1 + 1 + 1, x.1, none⟩)) rfl rfl rfl rfl Tryz.underlying112 hxl (fun _ => by kernel_rfl) rfl) hS0 (l' := #[false, true, true, true, true, false, false, false, false]) (by kernel_rfl) rfl ?_
       simp only [A0, A6, A5]
       refine Cn (i := 5) rfl (by kernel_rfl) (by kernel_rfl) (by kernel_rfl) (fun _ _ _ h => by cases h.1) (DT (v := .int .i64 d) rfl rfl rfl (Go.Proofs.run_isAgg_plain Tryz.underlying3 rfl) (fun W' h => h.2.2)) hS0 (l' := #[false, true, true, true, true, true, false, false, false]) (by kernel_rfl) rfl ?_
       simp only [A0, A6, A5]
       refine Lu (i := 0) (j := 6) rfl rfl (by kernel_rfl) (l' := #[true, true, true, true, true, true, false, false, false]) (l2 := #[false, true, true, true, true, true, true, false, false]) (by kernel_rfl) (by kernel_rfl) ?_ ?_
       · unfold Oper.wp
         go_simp
         refine BX (i := 6) rfl (by kernel_rfl) (l' := #[true, true, true, true, true, true, true, false, false]) (by kernel_rfl) ?_
         unfold Oper.wp
         go_simp
         refine (ED _ _ ys _ hSe.m hy.dig (by omega) (by omega) (by omega)).mono ?_
         rintro e w4 ⟨⟨rb, rfl, bs, hrb, nb, _⟩, hb4⟩
         have hS4 := hSe.below hb4
         have cR4 := hS4.b3.cell
         have hlb := nb.len_le (by decide) nt hle.1
         refine ⟨hSof _ hS4, ?_⟩
         refine BX (i := 7) rfl (by kernel_rfl) (l' := #[true, true, true, true, true, true, true, true, false]) (by kernel_rfl) ?_
         unfold Oper.wp
         go_simp
         refine (Cl _ _ tr bs _ hS4.r hrb nt.dig nb.dig (by omega) hlb (by rw [nb.val, nt.val]; exact hle.1)).mono ?_
         rintro e w5 ⟨⟨rm, rfl, ms, hrm, nm, hfm⟩, hb5⟩
         obtain ⟨a7, c7, rfl⟩ := hrm.shape
         have hS5 := hS4.below hb5
         have cR5 := hS5.b3.cell
         have fR5 := hS5.b3.frozen
         refine ⟨hSof _ hS5, ?_⟩
         refine BX (i := 8) rfl (by kernel_rfl) (l' := #[true, true, true, true, true, true, true, true, true]) (by kernel_rfl) ?_
         unfold Oper.wp
         go_simp
         refine ⟨?_, wpAnyH_done (by kernel_rfl) ⟨rfl, _, ms, w5, rfl, hS5, hrm, by rw [← hle.2, ← nt.val, ← nb.val]; exact nm, ?_, Fresh.mono (w' := w4) hfm hb4.size, ((Below.refl _ _).drew.trans hb4).trans (hb5.mono hb4.size)⟩ _⟩
         · obtain ⟨g1, g2, g3⟩ := hSof _ hS5
           exact ⟨(Co (by simp) _).trans g1, (Co (by simp; omega) _).trans g2, (Co (by simp) _).trans g3⟩
         · exact Nat.le_trans hb4.size hb5.size
       · skip
         unfold Oper.wp
         go_simp
         refine (ED _ _ ys _ hSe.m hy.dig (by omega) (by omega) (by omega)).mono ?_
         rintro e w4 ⟨⟨rb, rfl, bs, hrb, nb, _⟩, hb4⟩
         have hS4 := hSe.below hb4
         have cR4 := hS4.b3.cell
         have hlb := nb.len_le (by decide) nt hle.1
         refine ⟨hSof _ hS4, ?_⟩
         refine BX (i := 0) rfl (by kernel_rfl) (l' := #[true, true, true, true, true, true, true, false, false]) (by kernel_rfl) ?_
         unfold Oper.wp
         go_simp
         refine BX (i := 7) rfl (by kernel_rfl) (l' := #[true, true, true, true, true, true, true, true, false]) (by kernel_rfl) ?_
         unfold Oper.wp
         go_simp
         refine (Cl _ _ tr bs _ hS4.r hrb nt.dig nb.dig (by omega) hlb (by rw [nb.val, nt.val]; exact hle.1)).mono ?_
         rintro e w5 ⟨⟨rm, rfl, ms, hrm, nm, hfm⟩, hb5⟩
         obtain ⟨a7, c7, rfl⟩ := hrm.shape
         have hS5 := hS4.below hb5
         have cR5 := hS5.b3.cell
         have fR5 := hS5.b3.frozen
         refine ⟨hSof _ hS5, ?_⟩
         refine BX (i := 8) rfl (by kernel_rfl) (l' := #[true, true, true, true, true, true, true, true, true]) (by kernel_rfl) ?_
         unfold Oper.wp
         go_simp
         refine ⟨?_, wpAnyH_done (by kernel_rfl) ⟨rfl, _, ms, w5, rfl, hS5, hrm, by rw [← hle.2, ← nt.val, ← nb.val]; exact nm, ?_, Fresh.mono (w' := w4) hfm hb4.size, ((Below.refl _ _).drew.trans hb4).trans (hb5.mono hb4.size)⟩ _⟩
         · obtain ⟨g1, g2, g3⟩ := hSof _ hS5
           exact ⟨(Co (by simp) _).trans g1, (Co (by simp; omega) _).trans g2, (Co (by simp) _).trans g3⟩
         · exact Nat.le_trans hb4.size hb5.size
     · rintro e a' w' ⟨rfl, rm, ms, w5, rfl, hS5, hrm, nm, hsz, hfm, hb5⟩
       have hrp : ∀ b o, rm.ptr? = some (b, o) → b ≠ w.heap.size + 1 + 1 + 1 := fun b o e => by
         have h1 := hfm b o e
         have h2 := (hSd.q.lt (w.heap.size + 1 + 1 + 1) rfl).2
         omega
       refine ⟨(hOd.below hb5).setCell (by simp) _, Ar hS5.b1 (by omega) _, Ar hS5.b2 (by omega) _, ⟨rm, ms, hS5.b3.set _, hrm.setBox hS5.b3 (fun n e => by cases e) _, by rw [D5]; exact nm⟩, ?_, hS5.m.setBox hS5.b3 (fun n e => by cases e) _⟩
       rw [Cm, ← Hdq.out]
       exact hS5.q.kept (grownBy_setCell' _ _ _) (.inr (by simp [Value.ownBlock]))
 case done =>
   rintro D W hD ho ⟨h1, h2, ⟨rv, rs, h3, hr, nr⟩, hq, hm'⟩ hK
   have hmx : Tryz.prog.follows .mixedOrders = true := by kernel_rfl
   have hc2 := h2.cell
   have hf2 := h2.frozen
   have hc3 := h3.cell
   have hf3 := h3.frozen
   obtain ⟨a3, c3, rfl⟩ := hr.shape
   have hqs : Sl W.drew (.slice (some ⟨w.heap.size + 1 + 1 + 1, 0, none⟩) xs.length xs.length) (quoQ xs m (downs xs.length xs.length)).1 := (Sl.of_own hq).below (Below.refl _ _).drew
   have hle := Gq (xs := xs) hm
   have Hle := A8 hle
   clear hle
   gi_wp2_with fail
   gi_region_with (refine ⟨trivial, ?_⟩
                   gi_at_call 126
                   refine (callsIn_wide.2 (Bp _ _ _ hqs)).mono ?_
                   rintro e w' ⟨⟨r2, rfl, hz2, hp2⟩, rfl⟩
                   obtain ⟨a5, c5, rfl⟩ := hz2.shape)
   all_goals gi_wp2
   all_goals
     have hz3 : Sl W (.slice a5 (trim (quoQ xs m (downs xs.length xs.length)).1).length c5) (trim (quoQ xs m (downs xs.length xs.length)).1) := hz2
     have k2 := Ar (h2.set (.slice a5 (trim (quoQ xs m (downs xs.length xs.length)).1).length c5)) (show w.heap.size + 1 ≠ w.heap.size + 1 + 1 by omega) (.slice a3 rs.length c3)
     have k3 := (Ar h3 (show w.heap.size + 1 + 1 ≠ w.heap.size + 1 by omega) (.slice a5 (trim (quoQ xs m (downs xs.length xs.length)).1).length c5)).set (.slice a3 rs.length c3)
     have k3' := Ar h3 (show w.heap.size + 1 + 1 ≠ w.heap.size + 1 by omega) (.slice a5 (trim (quoQ xs m (downs xs.length xs.length)).1).length c5)
     have kz := ((hz3.setBox h2 (fun n e => by cases e) (.slice a5 (trim (quoQ xs m (downs xs.length xs.length)).1).length c5)).setBox k3' (fun n e => by cases e) (.slice a3 rs.length c3)).below (Below.refl _ _).drew
     have kr := ((hr.setBox h2 (fun n e => by cases e) (.slice a5 (trim (quoQ xs m (downs xs.length xs.length)).1).length c5)).setBox k3' (fun n e => by cases e) (.slice a3 rs.length c3)).below (Below.refl _ _).drew
     have l2 := Ai k2 (Below.refl _ _).drew
     have l3 := Ai k3 (Below.refl _ _).drew
     have hKF := (KeepsOthers.drew _).same D _ ((KeepsOthers.setCell _ ⟨w.heap.size + 1 + 1, 0, none⟩ (.slice a3 rs.length c3)).same D _ ((KeepsOthers.setCell W ⟨w.heap.size + 1, 0, none⟩ (.slice a5 (trim (quoQ xs m (downs xs.length xs.length)).1).length c5)).same D _ hK rfl) rfl) rfl
     have ck := CellsKept.putObj (.deferred none) hKF rfl
     have cA := (ck.boxed l2).cell
     have cB := (ck.boxed l3).cell
     have ho2 := ((((ho.mono (T := [w.heap.size + 1, w.heap.size + 1 + 1, w.heap.size + 1 + 1 + 1]) (by simp)).setCell (p := ⟨w.heap.size + 1, 0, none⟩) (by simp) (.slice a5 (trim (quoQ xs m (downs xs.length xs.length)).1).length c5)).setCell (p := ⟨w.heap.size + 1 + 1, 0, none⟩) (by simp) (.slice a3 rs.length c3)).below (Below.refl _ _).drew).putObj hD (.deferred none)
     exact Bi hKF (v := .tuple #[.slice a5 (trim (quoQ xs m (downs xs.length xs.length)).1).length c5, .slice a3 rs.length c3]) (by simp [results, Tryz.results97, go_sem, cA, cB])
       ⟨⟨_, rfl, _, _, _, rs, rfl, ck.sl kz, by rw [← Hle.out.1]; exact Num.trim (Lt hx hm _), ck.sl kr, by rw [← Hle.out.2]; exact nr⟩, pw.trans (ho2.toBelow (by have := pw.size; omega) (by simp; omega))⟩
 case stop =>
   rintro D k W hk hD ho h hK
   exact h.elim
end
end Go.Proofs.YtcmomjnailihpaaGreatDoor
