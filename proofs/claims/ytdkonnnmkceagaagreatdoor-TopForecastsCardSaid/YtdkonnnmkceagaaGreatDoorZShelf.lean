/- Shelf -/
import Derived.Shelf.Strings.SlTrimAscii
import Derived.Shelf.Strings.Builder1
import Derived.Shelf.Strings.Builder2
import Derived.Shelf.Strings.Trim
import Derived.Shelf.Small.Utf8
import Derived.Shelf.Small.Strs
import Derived.Shelf.Small.Wraps
import Derived.Shelf.Strings.BuilderF
import Derived.Shelf.Strings.BuilderK
import Derived.Shelf.Strings.Builder2Cap
import Derived.Shelf.Strconv.Atoi
import Derived.Shelf.Strconv.Itoa0
import Derived.Shelf.Strconv.Itoa1
import Derived.Shelf.LaysM
import Derived.Shelf.Strconv.Itoa2
import Derived.Shelf.Strconv.Itoa3
import Derived.Shelf.Strconv.AtoiErrFast
import Derived.Shelf.Strconv.ParseIntEmpty
import Derived.Shelf.Strconv.AtoiFail
import Derived.Shelf.Strconv.Clone
import Derived.Shelf.Strconv.SyntaxError
import Derived.Shelf.LaysC
import Derived.Shelf.Strconv.ToError
import Derived.Shelf.Strconv.Lower
import Derived.Shelf.Strconv.ParseUint10Empty
import Derived.Shelf.Strconv.RangeError
import Derived.Shelf.Strconv.ToErrorRange
import Derived.Shelf.Strings.Search1
import Derived.Shelf.Strings.Prefix
import Derived.Shelf.Strings.Runes
import Derived.Shelf.Strings.AsciiSet
import Derived.Shelf.Bits.Mul64
import Derived.Shelf.Strings.Repeat
import Derived.Shelf.Unicode.DecodeSlow
import Derived.Test.YtdkonnnmkceagaaGreatDoorProg
import Derived.Test.YtdkonnnmkceagaaGreatDoorZSh
namespace Go.Proofs
open Go.Proofs.YtdkonnnmkceagaaGreatDoor
open Go.Shelf
open Go.RowKit in
def Tryz.lays169_ren:Go.Shelf.Ren:=⟨fun | 169=>95 | n=>n,fun | 70=>145 | 9=>9 | 0=>0 | 72=>147 | 37=>116 | 127=>169 | 3=>3 | 5=>5 | n=>n,fun | n=>n⟩
theorem Tryz.lays169:Go.Proofs.Lays.n169 Tryz.prog Tryz.lays169_ren:=⟨Ab,Ab,Ab,Ac,Ac,Ac,Ab,Ac,Ac,Ac,Ab,Ac,Ac,Ac,Ab,Ac,Ac,Ac,Ab,Ac,Ac,Ac,Ab,Ac,Ac,Ac,Ab,Ac,Ac,Ac⟩
theorem Tryz.Builder_Extra_169:Builder.Extra Tryz.prog Tryz.lays169_ren:={
 sizeBuilder:=by kernel_rfl
 liesBuilder:=by kernel_rfl
 t5:=Tryz.underlying5
 a5:=Tryz.isAgg5
 z5:=Tryz.sizeOf5
 v5:=Tryz.zeroValue5
 infoByte:=by kernel_rfl
 cellsByte:=by kernel_rfl
 sizeByte:=by kernel_rfl
 neB5:=by decide }
open Go.RowKit in
open Go.RowKit in
open Go.RowKit in
open Go.RowKit in
open Go.RowKit in
open Go.RowKit in
open Go.RowKit in
open Go.RowKit in
open Go.RowKit in
open Go.RowKit in
def Tryz.lays122_ren:Go.Shelf.Ren:=⟨fun | 122=>96 | 215=>117 | n=>n,fun | 3=>3 | 4=>4 | n=>n,fun | n=>n⟩
theorem Tryz.lays122:Go.Proofs.Lays.n122 Tryz.prog Tryz.lays122_ren:=⟨Ab,Ab,Ab,Ab,Ac,Ac,Ac,Ab,Ac,Ac,Ac⟩
open Go.RowKit in
theorem Tryz.cmp_Compare_int (x y:Int) (w:World) :
 Calls Tryz.prog 96 #[.int .i64 x,.int .i64 y] w fun e w'=>e=.returned (.int .i64 (Lib.compareInt x y))/\w'=w:=Any.cmp_Compare_int Tryz.lays122 x y w
open Go.RowKit in
open Go.RowKit in
open Go.RowKit in
open Go.RowKit in
open Go.RowKit in
open Go.RowKit in
open Go.RowKit in
theorem Tryz.Builder_String_any_k (B b:Nat) (l:List UInt8) (w:World) (h:Lib.IsBuilderF 147 5 B b (Lib.byteCells l) w) (hBw:B<=w.heap.size) :
 Calls Tryz.prog 95 #[.pointer (some ⟨b,0,none⟩)] w fun e w'=>e=.returned (.string ⟨l.toArray⟩)/\(Lib.IsBuilderF 147 5 B b (Lib.byteCells l) w'/\Below B w w'/\Lib.OthersKept 5 (some b) w w'):=Any.Builder_String_any_k Tryz.lays169 Tryz.Builder_Extra_169 B b l w h hBw
open Go.RowKit in
open Go.RowKit in
open Go.RowKit in
def Tryz.lays172_ren:Go.Shelf.Ren:=⟨fun | 172=>109 | 244=>132 | 245=>133 | 247=>147 | 279=>148 | 280=>149 | 281=>150 | 282=>151 | 287=>161 | 316=>162 | 171=>70 | 205=>163 | 321=>170 | 322=>171 | 243=>103 | 246=>120 | 283=>139 | 284=>140 | 285=>141 | 286=>142 | 129=>154 | 317=>153 | 318=>155 | 319=>156 | 320=>157 | 337=>164 | 338=>165 | n=>n,fun | 9=>9 | 3=>3 | 75=>150 | 76=>151 | 4=>4 | 5=>5 | 167=>198 | 37=>116 | 0=>0 | 85=>199 | 2=>2 | 168=>201 | 53=>184 | 175=>209 | 46=>163 | 210=>213 | 127=>169 | 145=>225 | 143=>223 | 21=>21 | 171=>189 | 173=>192 | 212=>205 | 51=>181 | 20=>20 | 213=>206 | 232=>226 | 233=>227 | 80=>153 | n=>n,fun | 15=>1 | 16=>2 | 17=>0 | 18=>6 | 19=>7 | n=>n⟩
theorem Tryz.lays172:Go.Proofs.Lays.n172 Tryz.prog Tryz.lays172_ren:=⟨Ab,Ab,Ab,Ab,Ab,Ab,Ab,Ab,Ab,Ab,Ab,Ab,Ab,Ab,Ab,Ab,Ab,Ab,Ab,Ab,Ab,Ab,Ab,Ab,Ab,Ab,Ab,Ab,Ab,Ac,Ac,Ac,Ab,Ac,Ac,Ac,Ab,Ac,Ac,Ac,Ab,Ac,Ac,Ac,Ab,Ac,Ac,Ac,Ab,Ac,Ac,Ac,Ab,Ac,Ac,Ac,Ab,Ac,Ac,Ac,Ab,Ac,Ac,Ac,Ab,Ac,Ac,Ac,Ab,Ac,Ac,Ac,Ab,Ac,Ac,Ac,Ab,Ac,Ac,Ac,Ab,Ac,Ac,Ac,Ab,Ac,Ac,Ac,Ab,Ac,Ac,Ac,Ab,Ac,Ac,Ac,Ab,Ac,Ac,Ac,Ab,Ac,Ac,Ac,Ab,Ac,Ac,Ac,Ab,Ac,Ac,Ac,Ab,Ac,Ac,Ac,Ab,Ac,Ac,Ac,Ab,Ac,Ac,Ac,Ab,Ac,Ac,Ac,Ab,Ac,Ac,Ab,Ac,Ac,Ac,Ab,Ac,Ac,Ac,Ab,Ab,Ab,Ab,Ab⟩
open Go.RowKit in
theorem Tryz.strconv_Atoi (s:ByteArray) (n:Int) (hl:s.size<=18) (h:Lib.atoi s.data.toList=some n) (w:World) :
 Calls Tryz.prog 109 #[.string s] w fun e w'=>e=.returned (.tuple #[.int .i64 n,.nilIface])/\∃ t,w'=Lib.bytesWorld w 5 t:=Any.strconv_Atoi Tryz.lays172 s n hl h w
open Go.Lib in
open Go.Lib in
open Go.Lib in
open Go.Lib in
open Go.RowKit Go.Sort Go.Lib in
open Go.RowKit Go.Sort Go.Lib in
open Go.RowKit Go.Sort Go.Lib in
open Go.RowKit Go.Sort Go.Lib in
open Go.RowKit Go.Sort Go.Lib in
def Tryz.laysM171_ren:Go.Shelf.Ren:=⟨fun | 171=>70 | 243=>103 | 246=>120 | 283=>139 | 284=>140 | 285=>141 | 286=>142 | 129=>154 | 317=>153 | 318=>155 | 319=>156 | 320=>157 | 337=>164 | 338=>165 | n=>n,fun | 3=>3 | 9=>9 | 2=>2 | 4=>4 | 171=>189 | 0=>0 | 53=>184 | 37=>116 | 5=>5 | 173=>192 | 212=>205 | 51=>181 | 20=>20 | 213=>206 | 46=>163 | 232=>226 | 233=>227 | n=>n,fun | 17=>0 | 18=>6 | 19=>7 | n=>n⟩
theorem Tryz.laysM171:Go.Proofs.LaysM.n171 Tryz.prog Tryz.laysM171_ren:={mixed:=Ab,f129:=Ab,f171:=Ab,f243:=Ab,f246:=Ab,f283:=Ab,f284:=Ab,f285:=Ab,f286:=Ab,f317:=Ab,f318:=Ab,f319:=Ab,f320:=Ab,f337:=Ab,f338:=Ab,t0:=Ab,a0:=Ac,z0:=Ac,v0:=Ac,t2:=Ab,a2:=Ac,z2:=Ac,v2:=Ac,t3:=Ab,a3:=Ac,z3:=Ac,v3:=Ac,t4:=Ab,a4:=Ac,z4:=Ac,v4:=Ac,t5:=Ab,a5:=Ac,z5:=Ac,v5:=Ac,t9:=Ab,a9:=Ac,z9:=Ac,v9:=Ac,t20:=Ab,a20:=Ac,z20:=Ac,v20:=Ac,t37:=Ab,a37:=Ac,z37:=Ac,v37:=Ac,t46:=Ab,a46:=Ac,z46:=Ac,v46:=Ac,t51:=Ab,a51:=Ac,z51:=Ac,v51:=Ac,t53:=Ab,a53:=Ac,z53:=Ac,v53:=Ac,t171:=Ab,a171:=Ac,z171:=Ac,v171:=Ac,t173:=Ab,a173:=Ac,z173:=Ac,v173:=Ac,t212:=Ab,a212:=Ac,z212:=Ac,v212:=Ac,t213:=Ab,a213:=Ac,z213:=Ac,t232:=Ab,a232:=Ac,z232:=Ac,v232:=Ac,t233:=Ab,a233:=Ac,z233:=Ac,v233:=Ac,g17:=Ab,g18:=Ab,g19:=Ab,i0:=Ab,i2:=Ab,i3:=Ab,i4:=Ab,i5:=Ab,i9:=Ab,i20:=Ab,i37:=Ab,i46:=Ab,i51:=Ab,i53:=Ab,i171:=Ab,i173:=Ab,i212:=Ab,i232:=Ab,i233:=Ab,m17:=Ab,m18:=Ab,m19:=Ab}
open Go.RowKit Go.Sort Go.Lib in
theorem Tryz.strconv_Itoa (n : Int) (h0 : -9223372036854775808 ≤ n) (h1 : n ≤ 9223372036854775807) (w : World) (htab : Lib.TabIs Tryz.prog w "internal/strconv.uint64pow10" .u64 Lib.pow10Tab) :
 Calls Tryz.prog 70 #[.int .i64 n] w fun e w'=>e=.returned (.string ⟨(Lib.itoa n).toArray⟩)/\∃ k os,w'=grow (w.drewN k) os:=Any.strconv_Itoa Tryz.laysM171 n h0 h1 w htab
open Go.RowKit Go.Sort Go.Lib in
open Go.RowKit in
open Go.RowKit in
open Go.RowKit in
open Go.RowKit in
open Go.RowKit in
open Go.RowKit in
open Go.RowKit in
open Go.RowKit in
open Go.RowKit in
open Go.RowKit in
open Go.RowKit in
open Go.RowKit Go.Lib in
open Go.RowKit Go.Lib in
open Go.RowKit Go.Lib in
open Go.RowKit Go.Lib in
open Go.RowKit Go.Lib in
def Tryz.lays101_ren:Go.Shelf.Ren:=⟨fun | 101=>105 | 208=>123 | 206=>136 | n=>n,fun | 9=>9 | 4=>4 | 3=>3 | n=>n,fun | n=>n⟩
theorem Tryz.lays101:Go.Proofs.Lays.n101 Tryz.prog Tryz.lays101_ren:=⟨Ab,Ab,Ab,Ab,Ab,Ac,Ac,Ac,Ab,Ac,Ac,Ac,Ab,Ac,Ac,Ac⟩
open Go.RowKit Go.Lib in
theorem Tryz.strings_TrimPrefix (s p:ByteArray) (w:World) :
 Calls Tryz.prog 105 #[.string s,.string p] w fun e w'=>e=.returned (.string ⟨(Lib.trimPrefix s.data.toList p.data.toList).toArray⟩)/\w'=w:=Any.strings_TrimPrefix Tryz.lays101 s p w
open Go.RowKit Go.Lib in
open Go.RowKit Go.Lib in
open Go.RowKit Go.Lib in
open Go.RowKit Go.Lib in
open Go.RowKit Go.Lib in
open Go.RowKit Go.Lib in
def Tryz.lays105_ren:Go.Shelf.Ren:=⟨fun | 105=>93 | 212=>112 | 99=>113 | 165=>114 | 166=>94 | 170=>115 | 169=>95 | 263=>134 | 264=>135 | 206=>136 | 240=>116 | 241=>137 | 276=>138 | 277=>152 | n=>n,fun | 9=>9 | 3=>3 | 4=>4 | 20=>20 | 0=>0 | 46=>163 | 109=>164 | 5=>5 | 72=>147 | 76=>151 | 51=>181 | 146=>182 | 53=>184 | 148=>185 | 70=>145 | 37=>116 | 75=>150 | 127=>169 | 164=>187 | 80=>153 | n=>n,fun | n=>n⟩
theorem Tryz.lays105:Go.Proofs.Lays.n105 Tryz.prog Tryz.lays105_ren:=⟨Ab,Ab,Ab,Ab,Ab,Ab,Ab,Ab,Ab,Ab,Ab,Ab,Ab,Ab,Ab,Ab,Ac,Ac,Ac,Ab,Ac,Ac,Ac,Ab,Ac,Ac,Ac,Ab,Ac,Ac,Ac,Ab,Ac,Ac,Ac,Ab,Ac,Ac,Ac,Ab,Ac,Ac,Ac,Ab,Ac,Ac,Ac,Ab,Ac,Ac,Ac,Ab,Ac,Ac,Ac,Ab,Ac,Ac,Ac,Ab,Ac,Ac,Ac,Ab,Ac,Ac,Ac,Ab,Ac,Ac,Ac,Ab,Ac,Ac,Ac,Ab,Ac,Ac,Ac,Ab,Ac,Ac,Ac,Ab,Ac,Ac,Ac,Ab,Ac,Ac,Ac⟩
theorem Tryz.Builder_Extra_105:Builder.Extra Tryz.prog Tryz.lays105_ren:={
 sizeBuilder:=by kernel_rfl
 liesBuilder:=by kernel_rfl
 t5:=Tryz.underlying5
 a5:=Tryz.isAgg5
 z5:=Tryz.sizeOf5
 v5:=Tryz.zeroValue5
 infoByte:=by kernel_rfl
 cellsByte:=by kernel_rfl
 sizeByte:=by kernel_rfl
 neB5:=by decide }
open Go.RowKit Go.Lib in
open Go.RowKit Go.Lib in
open Go.RowKit Go.Lib in
open Go.RowKit Go.Lib in
open Go.RowKit Go.Lib in
open Go.RowKit Go.Lib in
open Go.RowKit Go.Lib in
theorem Tryz.strings_Repeat (s:ByteArray) (c:Nat) (w:World) (hc:c<=9223372036854775807) (hlen:s.size*c<=140737488355328) :
 Calls Tryz.prog 93 #[.string s,.int .i64 c] w fun e w'=>e=.returned (.string ⟨(Lib.repeatL s.data.toList c).toArray⟩)/\Below w.heap.size w w':=Any.strings_Repeat Tryz.lays105 Tryz.Builder_Extra_105 s c w hc hlen
open Go.RowKit Go.Lib in
def Tryz.lays160t_ren:Go.Shelf.Ren:=⟨fun | 160=>106 | 232=>125 | 231=>124 | 227=>126 | 234=>128 | 233=>127 | 236=>130 | 235=>129 | 228=>143 | 271=>146 | 151=>145 | 197=>144 | 120=>160 | 152=>159 | 260=>158 | 137=>166 | 119=>167 | 224=>168 | 225=>169 | 217=>172 | 266=>173 | n=>n,fun | 9=>9 | 4=>4 | 3=>3 | 5=>5 | 117=>176 | 116=>175 | 0=>0 | 124=>179 | 21=>21 | 105=>195 | 46=>163 | 119=>216 | 139=>219 | 138=>218 | n=>n,fun | 3=>4 | 4=>5 | n=>n⟩
theorem Tryz.lays160t:Go.Proofs.Lays.n160 Tryz.prog Tryz.lays160t_ren:=⟨Ab,Ab,Ab,Ab,Ab,Ab,Ab,Ab,Ab,Ab,Ab,Ab,Ab,Ab,Ab,Ab,Ab,Ab,Ab,Ab,Ab,Ab,Ab,Ac,Ac,Ac,Ab,Ac,Ac,Ac,Ab,Ac,Ac,Ac,Ab,Ac,Ac,Ac,Ab,Ac,Ac,Ac,Ab,Ac,Ac,Ac,Ab,Ac,Ac,Ac,Ab,Ac,Ac,Ac,Ab,Ac,Ac,Ab,Ac,Ac,Ac,Ab,Ac,Ac,Ab,Ac,Ac,Ac,Ab,Ac,Ac,Ac,Ab,Ac,Ac,Ac,Ab,Ab⟩
end Go.Proofs
