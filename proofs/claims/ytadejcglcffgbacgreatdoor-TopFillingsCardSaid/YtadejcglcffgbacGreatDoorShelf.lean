/-
  DERIVED: THE SHELF's CONTRACTS AT THIS DUMP, IN PLAIN WORDS (tools/lay-plain.mjs out of 'YtadejcglcffgbacGreatDoorShelf.lean', which tools/lay-shelf.mjs wrote): THE SAME DECLARATIONS UNDER THE SAME NAMES: 'import', 'namespace', 'open', 'def', 'theorem' AND NOTHING ELSE: no command of the shelf's: FOR A HAND-IN. Each laying: the table of numbers ('.._ren') and one theorem, a field a fact of the dump's own or the kernel's comparison; each contract: ONE APPLICATION.
-/
import Derived.Shelf.Strings.SlTrimAscii
import Derived.Shelf.Strings.Builder1
import Derived.Shelf.Strings.OnBuilder
import Derived.Shelf.Strconv.Atoi
import Derived.Shelf.LaysM
import Derived.Shelf.Strconv.Itoa3
import Derived.Shelf.LaysC
import Derived.Shelf.Strconv.AtoiErr
import Derived.Shelf.Strconv.ParseIntPublic10
import Derived.Shelf.Strings.IndexAnyAll
import Derived.Shelf.Strings.Repeat
import Derived.Shelf.Strings.MapAny
import Derived.Ground.Names2Prog
import Derived.Shelf.Slices.Clone
import Derived.Test.YtadejcglcffgbacGreatDoorProg
namespace Go.Proofs
open Go.Shelf
def Tryz.lays169_ren:Go.Shelf.Ren:=⟨fun | 169=>133 | n=>n,fun | 70=>188 | 9=>9 | 0=>0 | 72=>191 | 37=>189 | 127=>235 | 3=>3 | 5=>5 | n=>n,fun | n=>n⟩
theorem Tryz.lays169:Go.Proofs.Lays.n169 Tryz.prog Tryz.lays169_ren:=by constructor<;>intros<;>first|kernel_rfl|(constructor<;>intros<;>first|kernel_rfl|(constructor<;>intros<;>kernel_rfl))
theorem Tryz.Builder_Extra_169:Builder.Extra Tryz.prog Tryz.lays169_ren:={
 sizeBuilder:=by kernel_rfl
 liesBuilder:=by kernel_rfl
 t5:=Tryz.underlying5
 a5:=Tryz.isAgg5
 z5:=Tryz.sizeOf5
 v5:=Tryz.zeroValue5
 infoByte:=by kernel_rfl
 cellsByte:=by kernel_rfl
 sizeByte:=by kernel_rfl
 neB5:=by decide }
open Go.RowKit in
theorem Tryz.Builder_String_any (B b:Nat) (l:List UInt8) (w:World) (h:Lib.IsBuilder 191 5 B b (Lib.byteCells l) w) (hBw:B<=w.heap.size):
  Calls Tryz.prog 133 #[.pointer (some ⟨b,0,none⟩)] w λe w'=>e=.returned (.string ⟨l.toArray⟩)/\Below B w w':=Any.Builder_String_any Tryz.lays169 Tryz.Builder_Extra_169 B b l w h hBw
def Tryz.lays156_ren:Go.Shelf.Ren:=⟨fun | 156=>161 | 165=>130 | 166=>131 | 169=>133 | 240=>184 | 241=>185 | 276=>232 | 277=>233 | n=>n,fun | 31=>108 | 9=>9 | 3=>3 | 4=>4 | 0=>0 | 20=>20 | 72=>191 | 76=>136 | 70=>188 | 37=>189 | 75=>135 | 127=>235 | 164=>282 | 5=>5 | 80=>55 | n=>n,fun | n=>n⟩
theorem Tryz.lays156:Go.Proofs.Lays.n156 Tryz.prog Tryz.lays156_ren:=by constructor<;>intros<;>first|kernel_rfl|(constructor<;>intros<;>first|kernel_rfl|(constructor<;>intros<;>kernel_rfl))
theorem Tryz.Builder_Extra_156:Builder.Extra Tryz.prog Tryz.lays156_ren:={
 sizeBuilder:=by kernel_rfl
 liesBuilder:=by kernel_rfl
 t5:=Tryz.underlying5
 a5:=Tryz.isAgg5
 z5:=Tryz.sizeOf5
 v5:=Tryz.zeroValue5
 infoByte:=by kernel_rfl
 cellsByte:=by kernel_rfl
 sizeByte:=by kernel_rfl
 neB5:=by decide }
open Go.RowKit in
theorem Tryz.strings_Join_none (a:Option Addr) (c:Nat) (sep:ByteArray) (w:World):
  Calls Tryz.prog 161 #[.slice a 0 c,.string sep] w λe w'=>e=.returned (.string ⟨#[]⟩)/\w'=w:=Any.strings_Join_none Tryz.lays156 Tryz.Builder_Extra_156 a c sep w
open Go.RowKit in
theorem Tryz.strings_Join (bk o c:Nat) (xs:List ByteArray) (sep:ByteArray) (w:World) (hcells:∀(j:Nat) x,xs[j]?=some x->w.cell? ⟨bk,o+j,none⟩=some (.string x)) (hbk:bk<w.heap.size) (hN:xs.length<=140737488355328) (hcap:xs.length<=c) (hlen:(Lib.join (xs.map (·.data.toList)) sep.data.toList).length<=140737488355328):
  Calls Tryz.prog 161 #[.slice (some ⟨bk,o,none⟩) xs.length c,.string sep] w λe w'=>e=.returned (.string ⟨(Lib.join (xs.map (·.data.toList)) sep.data.toList).toArray⟩)/\Below w.heap.size w w':=Any.strings_Join Tryz.lays156 Tryz.Builder_Extra_156 bk o c xs sep w hcells hbk hN hcap hlen
def Tryz.lays172_ren:Go.Shelf.Ren:=⟨fun | 172=>66 | 244=>108 | 245=>109 | 247=>164 | 279=>165 | 280=>166 | 281=>167 | 282=>168 | 287=>221 | 316=>222 | 171=>219 | 205=>223 | 321=>261 | 322=>262 | 243=>260 | 246=>127 | 283=>178 | 284=>179 | 285=>180 | 286=>181 | 129=>228 | 317=>227 | 318=>229 | 319=>230 | 320=>231 | 337=>264 | 338=>265 | n=>n,fun | 9=>9 | 3=>3 | 75=>135 | 76=>136 | 4=>4 | 5=>5 | 167=>215 | 37=>189 | 0=>0 | 85=>195 | 2=>2 | 168=>216 | 53=>225 | 175=>267 | 46=>185 | 210=>270 | 127=>235 | 145=>306 | 143=>304 | 21=>21 | 171=>224 | 173=>228 | 212=>279 | 51=>230 | 20=>20 | 213=>280 | 232=>314 | 233=>315 | 80=>55 | n=>n,fun | 15=>2 | 16=>3 | 17=>6 | 18=>7 | 19=>8 | n=>n⟩
theorem Tryz.lays172:Go.Proofs.Lays.n172 Tryz.prog Tryz.lays172_ren:=by constructor<;>intros<;>first|kernel_rfl|(constructor<;>intros<;>first|kernel_rfl|(constructor<;>intros<;>kernel_rfl))
open Go.RowKit in
theorem Tryz.strconv_Atoi (s:ByteArray) (n:Int) (hl:s.size<=18) (h:Lib.atoi s.data.toList=some n) (w:World):
  Calls Tryz.prog 66 #[.string s] w λe w'=>e=.returned (.tuple #[.int .i64 n,.nilIface])/\∃t,w'=Lib.bytesWorld w 5 t:=Any.strconv_Atoi Tryz.lays172 s n hl h w
def Tryz.laysM246_ren:Go.Shelf.Ren:=⟨fun | 246=>127 | 283=>178 | 284=>179 | 285=>180 | 286=>181 | 129=>228 | 317=>227 | 318=>229 | 319=>230 | 320=>231 | 337=>264 | 338=>265 | n=>n,fun | 2=>2 | 3=>3 | 9=>9 | 4=>4 | 171=>224 | 0=>0 | 53=>225 | 37=>189 | 5=>5 | 173=>228 | 212=>279 | 51=>230 | 20=>20 | 213=>280 | 46=>185 | 232=>314 | 233=>315 | n=>n,fun | 17=>6 | 18=>7 | 19=>8 | n=>n⟩
theorem Tryz.laysM246:Go.Proofs.LaysM.n246 Tryz.prog Tryz.laysM246_ren:=by constructor<;>intros<;>first|kernel_rfl|(constructor<;>intros<;>first|kernel_rfl|(constructor<;>intros<;>kernel_rfl))
open Go.RowKit Go.Sort Go.Lib in
theorem Tryz.internal_strconv_FormatInt_10 (n:Int) (h0:-9223372036854775808<=n) (h1:n<=9223372036854775807) (w:World) (htab:Lib.TabIs Tryz.prog w "internal/strconv.uint64pow10" .u64 Lib.pow10Tab):
  Calls Tryz.prog 127 #[.int .i64 n,.int .i64 10] w λe w'=>e=.returned (.string ⟨(Lib.itoa n).toArray⟩)/\∃k os,w'=grow (w.drewN k) os:=Any.internal_strconv_FormatInt_10 Tryz.laysM246 n h0 h1 w htab
def Tryz.lays171_ren:Go.Shelf.Ren:=⟨fun | 171=>219 | 243=>260 | 246=>127 | 283=>178 | 284=>179 | 285=>180 | 286=>181 | 129=>228 | 317=>227 | 318=>229 | 319=>230 | 320=>231 | 337=>264 | 338=>265 | n=>n,fun | 3=>3 | 9=>9 | 2=>2 | 4=>4 | 171=>224 | 0=>0 | 53=>225 | 37=>189 | 5=>5 | 173=>228 | 212=>279 | 51=>230 | 20=>20 | 213=>280 | 46=>185 | 232=>314 | 233=>315 | n=>n,fun | 17=>6 | 18=>7 | 19=>8 | n=>n⟩
theorem Tryz.lays171:Go.Proofs.Lays.n171 Tryz.prog Tryz.lays171_ren:=by constructor<;>intros<;>first|kernel_rfl|(constructor<;>intros<;>first|kernel_rfl|(constructor<;>intros<;>kernel_rfl))
open Go.RowKit Go.Sort Go.Lib in
theorem Tryz.strconv_Itoa_small (i:Nat) (hi:i<100) (w:World):
  Calls Tryz.prog 219 #[.int .i64 i] w λe w'=>e=.returned (.string ⟨(Lib.decDigits i).toArray⟩)/\w'=w:=Any.strconv_Itoa_small Tryz.lays171 i hi w
def Tryz.laysC172_ren:Go.Shelf.Ren:=⟨fun | 172=>66 | 244=>108 | 245=>109 | 247=>164 | 279=>165 | 280=>166 | 281=>167 | 282=>168 | 287=>221 | 316=>222 | 171=>219 | 205=>223 | 321=>261 | 322=>262 | 243=>260 | 246=>127 | 283=>178 | 284=>179 | 285=>180 | 286=>181 | 129=>228 | 317=>227 | 318=>229 | 319=>230 | 320=>231 | 337=>264 | 338=>265 | n=>n,fun | 9=>9 | 3=>3 | 75=>135 | 76=>136 | 4=>4 | 5=>5 | 167=>215 | 37=>189 | 0=>0 | 85=>195 | 2=>2 | 168=>216 | 53=>225 | 175=>267 | 46=>185 | 210=>270 | 127=>235 | 145=>306 | 143=>304 | 21=>21 | 171=>224 | 173=>228 | 212=>279 | 51=>230 | 20=>20 | 213=>280 | 232=>314 | 233=>315 | 80=>55 | n=>n,fun | 15=>2 | 16=>3 | 17=>6 | 18=>7 | 19=>8 | n=>n⟩
theorem Tryz.laysC172:Go.Proofs.LaysC.n172 Tryz.prog Tryz.laysC172_ren:=by constructor<;>intros<;>first|kernel_rfl|(constructor<;>intros<;>first|kernel_rfl|(constructor<;>intros<;>kernel_rfl))
open Go.RowKit in
theorem Tryz.strconv_Atoi_err (s:ByteArray) (hl:s.size<=18) (h:Lib.atoi s.data.toList=none) (ev:Value) (w:World) (hv:w.cell? ⟨2,0,none⟩=some ev) (hev:ev=.nilIface\/∃te pe,ev=.iface te pe):
  Calls Tryz.prog 66 #[.string s] w λe w'=>∃N,e=.returned (.tuple #[.int .i64 0,.iface 216 (.pointer (some ⟨N,0,none⟩))])/\w.heap.size<=N/\w'.heap[N]?=some (.cells #[.string ⟨#[65,116,111,105]⟩,.string s,ev] 270 (0,0))/\Below w.heap.size w w':=Any.strconv_Atoi_err Tryz.laysC172 s hl h ev w hv hev
def Tryz.laysC174_ren:Go.Shelf.Ren:=⟨fun | 174=>140 | 247=>164 | 245=>109 | 287=>221 | 279=>165 | 280=>166 | 281=>167 | 282=>168 | 321=>261 | 322=>262 | 316=>222 | 171=>219 | 205=>223 | 243=>260 | 246=>127 | 283=>178 | 284=>179 | 285=>180 | 286=>181 | 129=>228 | 317=>227 | 318=>229 | 319=>230 | 320=>231 | 337=>264 | 338=>265 | n=>n,fun | 9=>9 | 3=>3 | 2=>2 | 75=>135 | 85=>195 | 4=>4 | 167=>215 | 5=>5 | 53=>225 | 175=>267 | 46=>185 | 168=>216 | 37=>189 | 0=>0 | 210=>270 | 21=>21 | 127=>235 | 145=>306 | 143=>304 | 171=>224 | 173=>228 | 212=>279 | 51=>230 | 20=>20 | 213=>280 | 232=>314 | 233=>315 | 80=>55 | n=>n,fun | 15=>2 | 16=>3 | 17=>6 | 18=>7 | 19=>8 | n=>n⟩
theorem Tryz.laysC174:Go.Proofs.LaysC.n174 Tryz.prog Tryz.laysC174_ren:=by constructor<;>intros<;>first|kernel_rfl|(constructor<;>intros<;>first|kernel_rfl|(constructor<;>intros<;>kernel_rfl))
open Go.RowKit in
theorem Tryz.strconv_ParseInt_10_at64_ok (s:ByteArray) (hmax:s.size<=9223372036854775806) (v:Int) (h:Lib.parseIntB 64 s.data.toList=.ok v) (w:World):
  Calls Tryz.prog 140 #[.string s,.int .i64 10,.int .i64 64] w λe w'=>e=.returned (.tuple #[.int .i64 v,.nilIface])/\(w'=w\/∃t,w'=Lib.bytesWorld w 5 t):=Any.strconv_ParseInt_10_at64_ok Tryz.laysC174 s hmax v h w
def Tryz.lays150_ren:Go.Shelf.Ren:=⟨fun | 150=>208 | 153=>253 | 152=>235 | 226=>276 | 227=>192 | 228=>236 | 137=>201 | 119=>266 | 224=>174 | 225=>173 | 217=>172 | 266=>225 | n=>n,fun | 9=>9 | 4=>4 | 3=>3 | 5=>5 | 21=>21 | 117=>243 | 116=>242 | 0=>0 | 46=>185 | 124=>246 | n=>n,fun | n=>n⟩
theorem Tryz.lays150:Go.Proofs.Lays.n150 Tryz.prog Tryz.lays150_ren:=by constructor<;>intros<;>first|kernel_rfl|(constructor<;>intros<;>first|kernel_rfl|(constructor<;>intros<;>kernel_rfl))
open Go.RowKit Go.Lib in
theorem Tryz.strings_ContainsAny_laid (s chars:ByteArray) (w:World) (hs:s.size<4294967281) (hcs:chars.size<4294967281) (has:∀(j:Nat) b,s.data.toList[j]?=some b->b.toNat<128) (hac:∀(j:Nat) b,chars.data.toList[j]?=some b->b.toNat<128):
  Calls Tryz.prog 208 #[.string s,.string chars] w λe w'=>e=.returned (.bool (Lib.containsAny s.data.toList chars.data.toList))/\Below w.heap.size w w':=Any.strings_ContainsAny_laid Tryz.lays150 (by kernel_rfl) s chars w hs hcs has hac
def Tryz.lays105_ren:Go.Shelf.Ren:=⟨fun | 105=>81 | 212=>128 | 99=>129 | 165=>130 | 166=>131 | 170=>132 | 169=>133 | 263=>182 | 264=>183 | 206=>126 | 240=>184 | 241=>185 | 276=>232 | 277=>233 | n=>n,fun | 9=>9 | 3=>3 | 4=>4 | 20=>20 | 0=>0 | 46=>185 | 109=>186 | 5=>5 | 72=>191 | 76=>136 | 51=>230 | 146=>231 | 53=>225 | 148=>233 | 70=>188 | 37=>189 | 75=>135 | 127=>235 | 164=>282 | 80=>55 | n=>n,fun | n=>n⟩
theorem Tryz.lays105:Go.Proofs.Lays.n105 Tryz.prog Tryz.lays105_ren:=by constructor<;>intros<;>first|kernel_rfl|(constructor<;>intros<;>first|kernel_rfl|(constructor<;>intros<;>kernel_rfl))
theorem Tryz.Builder_Extra_105:Builder.Extra Tryz.prog Tryz.lays105_ren:={
 sizeBuilder:=by kernel_rfl
 liesBuilder:=by kernel_rfl
 t5:=Tryz.underlying5
 a5:=Tryz.isAgg5
 z5:=Tryz.sizeOf5
 v5:=Tryz.zeroValue5
 infoByte:=by kernel_rfl
 cellsByte:=by kernel_rfl
 sizeByte:=by kernel_rfl
 neB5:=by decide }
open Go.RowKit Go.Lib in
theorem Tryz.strings_Repeat (s:ByteArray) (c:Nat) (w:World) (hc:c<=9223372036854775807) (hlen:s.size*c<=140737488355328):
  Calls Tryz.prog 81 #[.string s,.int .i64 c] w λe w'=>e=.returned (.string ⟨(Lib.repeatL s.data.toList c).toArray⟩)/\Below w.heap.size w w':=Any.strings_Repeat Tryz.lays105 Tryz.Builder_Extra_105 s c w hc hlen
def Tryz.lays230_ren:Go.Shelf.Ren:=⟨fun | 230=>252 | 197=>237 | 118=>272 | 165=>130 | 166=>131 | 168=>273 | 270=>274 | 167=>275 | 169=>133 | 260=>267 | 240=>184 | 241=>185 | 242=>277 | 276=>232 | 277=>233 | 278=>278 | n=>n,fun | 107=>299 | 9=>9 | 72=>191 | 0=>0 | 4=>4 | 3=>3 | 21=>21 | 105=>288 | 76=>136 | 5=>5 | 75=>135 | 70=>188 | 20=>20 | 37=>189 | 127=>235 | 119=>316 | 46=>185 | 139=>319 | 138=>318 | 164=>282 | 51=>230 | 80=>55 | n=>n,fun | 3=>9 | 4=>10 | n=>n⟩
theorem Tryz.lays230:Go.Proofs.Lays.n230 Tryz.prog Tryz.lays230_ren:=by constructor<;>intros<;>first|kernel_rfl|(constructor<;>intros<;>first|kernel_rfl|(constructor<;>intros<;>kernel_rfl))
theorem Tryz.Builder_Extra_230:Builder.Extra Tryz.prog Tryz.lays230_ren:={
 sizeBuilder:=by kernel_rfl
 liesBuilder:=by kernel_rfl
 t5:=Tryz.underlying5
 a5:=Tryz.isAgg5
 z5:=Tryz.sizeOf5
 v5:=Tryz.zeroValue5
 infoByte:=by kernel_rfl
 cellsByte:=by kernel_rfl
 sizeByte:=by kernel_rfl
 neB5:=by decide }
open Go.RowKit Go.Lib in
theorem Tryz.strings_Map_runes (g:Nat) (lb:Array Value) (eg:∀args w,(callFunc g args).run Tryz.prog w=.ok (.enter g args) w) (f:Int->Int) (s:ByteArray) (w:World) (hs:s.size<35184372088832) (hf:MapAtRunes Tryz.prog g lb f w) (hnn:∀x:Nat,x<=1114111->0<=f x/\f x<=2147483647) (hT:Lib.Utf8Tabs 9 10 w):
  Calls Tryz.prog 252 #[.func (.func g) #[] lb,.string s] w λe w'=>e=.returned (.string ⟨(Lib.mapD f s.data.toList).toArray⟩)/\Below w.heap.size w w':=Any.strings_Map_runes Tryz.lays230 Tryz.Builder_Extra_230 g lb eg f s w hs hf hnn hT
def Tryz.lays162_ren:Go.Shelf.Ren:=⟨fun | 162=>204 | 232=>191 | 227=>192 | 234=>194 | 236=>196 | 228=>236 | 271=>238 | 151=>189 | 120=>268 | 197=>237 | 152=>235 | 260=>267 | 137=>201 | 119=>266 | 224=>174 | 225=>173 | 217=>172 | 266=>225 | n=>n,fun | 9=>9 | 4=>4 | 3=>3 | 5=>5 | 117=>243 | 116=>242 | 0=>0 | 124=>246 | 21=>21 | 105=>288 | 46=>185 | 119=>316 | 139=>319 | 138=>318 | n=>n,fun | 3=>9 | 4=>10 | n=>n⟩
theorem Tryz.lays162:Go.Proofs.Lays.n162 Tryz.prog Tryz.lays162_ren:=by constructor<;>intros<;>first|kernel_rfl|(constructor<;>intros<;>first|kernel_rfl|(constructor<;>intros<;>kernel_rfl))
theorem Tryz.strings_TrimRight_laid (s cutset:ByteArray) (w:World) (hs:s.size<=9223372036854775807) (hcs:cutset.size<4294967281) (hascii:∀(j:Nat) b,cutset.data.toList[j]?=some b->b.toNat<128):
  Calls Tryz.prog 204 #[.string s,.string cutset] w λe w'=>e=.returned (.string ⟨(Lib.trimRightS s.data.toList cutset.data.toList).toArray⟩)/\Go.RowKit.Below w.heap.size w w':=
 Any.strings_TrimRight_laid Tryz.lays162 (by kernel_rfl) s cutset w hs hcs hascii
def Tryz.lays166_ren:Go.Shelf.Ren:=⟨fun | 166=>131 | 240=>184 | 276=>232 | n=>n,fun | 0=>0 | 3=>3 | 4=>4 | 5=>5 | 9=>9 | 20=>20 | 37=>189 | 70=>188 | 72=>191 | 75=>135 | 80=>55 | 164=>282 | n=>n,fun | n=>n⟩
theorem Tryz.lays166:Go.Proofs.Lays.n166 Tryz.prog Tryz.lays166_ren:=by constructor<;>intros<;>first|kernel_rfl|(constructor<;>intros<;>first|kernel_rfl|(constructor<;>intros<;>kernel_rfl))
theorem Tryz.Builder_Extra_166:Builder.Extra Tryz.prog Tryz.lays166_ren:={
 sizeBuilder:=by kernel_rfl
 liesBuilder:=by kernel_rfl
 t5:=Tryz.underlying5
 a5:=Tryz.isAgg5
 z5:=Tryz.sizeOf5
 v5:=Tryz.zeroValue5
 infoByte:=by kernel_rfl
 cellsByte:=by kernel_rfl
 sizeByte:=by kernel_rfl
 neB5:=by decide }
theorem Tryz.Builder_WriteString (B b:Nat) (bs:List Value) (s:ByteArray) (w:World) (h:Lib.IsBuilder 191 5 B b bs w) (hlen:bs.length+s.size<=140737488355328) (hBw:B<=w.heap.size):
  Calls Tryz.prog 131 #[.pointer (some ⟨b,0,none⟩),.string s] w λe w'=>e=.returned (.tuple #[.int .i64 s.size,.nilIface])/\(Lib.BuilderAt 191 5 B b (.pointer (some ⟨b,0,none⟩)) (bs++Lib.strCells s) w'/\Go.RowKit.Below B w w'):=Any.Builder_WriteString Tryz.lays166 Tryz.Builder_Extra_166 B b bs s w h hlen hBw
end Go.Proofs
