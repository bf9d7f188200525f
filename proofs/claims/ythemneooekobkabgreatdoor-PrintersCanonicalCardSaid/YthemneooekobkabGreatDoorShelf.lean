/-
  DERIVED: THE SHELF's CONTRACTS AT THIS DUMP, IN PLAIN WORDS (tools/lay-plain.mjs out of 'YthemneooekobkabGreatDoorShelf.lean', which tools/lay-shelf.mjs wrote): THE SAME DECLARATIONS UNDER THE SAME NAMES: 'import', 'namespace', 'open', 'def', 'theorem' AND NOTHING ELSE: no command of the shelf's: FOR A HAND-IN. Each laying: the table of numbers ('.._ren') and one theorem, a field a fact of the dump's own or the kernel's comparison; each contract: ONE APPLICATION.
-/
import Derived.Shelf.Strings.SlTrimAscii
import Derived.Shelf.Strings.Builder1
import Derived.Shelf.Strings.OnBuilder
import Derived.Shelf.Strconv.Atoi
import Derived.Shelf.LaysM
import Derived.Shelf.Strconv.Itoa3
import Derived.Shelf.LaysC
import Derived.Shelf.Strconv.AtoiErr
import Derived.Shelf.Strconv.ParseIntPublic10
import Derived.Shelf.Strings.IndexAnyAll
import Derived.Shelf.Strings.MapAny
import Derived.Ground.Names2Prog
import Derived.Shelf.Slices.Clone
import Derived.Test.YthemneooekobkabGreatDoorProg
namespace Go.Proofs
open Go.Shelf
def Tryz.lays169_ren:Go.Shelf.Ren:=⟨fun | 169=>178 | n=>n,fun | 70=>236 | 9=>9 | 0=>0 | 72=>238 | 37=>227 | 127=>287 | 3=>3 | 5=>5 | n=>n,fun | n=>n⟩
theorem Tryz.lays169:Go.Proofs.Lays.n169 Tryz.prog Tryz.lays169_ren:=by constructor<;>intros<;>first|kernel_rfl|(constructor<;>intros<;>first|kernel_rfl|(constructor<;>intros<;>kernel_rfl))
theorem Tryz.Builder_Extra_169:Builder.Extra Tryz.prog Tryz.lays169_ren:={
 sizeBuilder:=by kernel_rfl
 liesBuilder:=by kernel_rfl
 t5:=Tryz.underlying5
 a5:=Tryz.isAgg5
 z5:=Tryz.sizeOf5
 v5:=Tryz.zeroValue5
 infoByte:=by kernel_rfl
 cellsByte:=by kernel_rfl
 sizeByte:=by kernel_rfl
 neB5:=by decide }
open Go.RowKit in
theorem Tryz.Builder_String_any (B b:Nat) (l:List UInt8) (w:World) (h:Lib.IsBuilder 238 5 B b (Lib.byteCells l) w) (hBw:B<=w.heap.size):
  Calls Tryz.prog 178 #[.pointer (some ⟨b,0,none⟩)] w λe w'=>e=.returned (.string ⟨l.toArray⟩)/\Below B w w':=Any.Builder_String_any Tryz.lays169 Tryz.Builder_Extra_169 B b l w h hBw
def Tryz.lays156_ren:Go.Shelf.Ren:=⟨fun | 156=>140 | 165=>181 | 166=>176 | 169=>178 | 240=>231 | 241=>233 | 276=>273 | 277=>275 | n=>n,fun | 31=>68 | 9=>9 | 3=>3 | 4=>4 | 0=>0 | 20=>20 | 72=>238 | 76=>161 | 70=>236 | 37=>227 | 75=>160 | 127=>287 | 164=>318 | 5=>5 | 80=>89 | n=>n,fun | n=>n⟩
theorem Tryz.lays156:Go.Proofs.Lays.n156 Tryz.prog Tryz.lays156_ren:=by constructor<;>intros<;>first|kernel_rfl|(constructor<;>intros<;>first|kernel_rfl|(constructor<;>intros<;>kernel_rfl))
theorem Tryz.Builder_Extra_156:Builder.Extra Tryz.prog Tryz.lays156_ren:={
 sizeBuilder:=by kernel_rfl
 liesBuilder:=by kernel_rfl
 t5:=Tryz.underlying5
 a5:=Tryz.isAgg5
 z5:=Tryz.sizeOf5
 v5:=Tryz.zeroValue5
 infoByte:=by kernel_rfl
 cellsByte:=by kernel_rfl
 sizeByte:=by kernel_rfl
 neB5:=by decide }
open Go.RowKit in
theorem Tryz.strings_Join_none (a:Option Addr) (c:Nat) (sep:ByteArray) (w:World):
  Calls Tryz.prog 140 #[.slice a 0 c,.string sep] w λe w'=>e=.returned (.string ⟨#[]⟩)/\w'=w:=Any.strings_Join_none Tryz.lays156 Tryz.Builder_Extra_156 a c sep w
open Go.RowKit in
theorem Tryz.strings_Join (bk o c:Nat) (xs:List ByteArray) (sep:ByteArray) (w:World) (hcells:∀(j:Nat) x,xs[j]?=some x->w.cell? ⟨bk,o+j,none⟩=some (.string x)) (hbk:bk<w.heap.size) (hN:xs.length<=140737488355328) (hcap:xs.length<=c) (hlen:(Lib.join (xs.map (·.data.toList)) sep.data.toList).length<=140737488355328):
  Calls Tryz.prog 140 #[.slice (some ⟨bk,o,none⟩) xs.length c,.string sep] w λe w'=>e=.returned (.string ⟨(Lib.join (xs.map (·.data.toList)) sep.data.toList).toArray⟩)/\Below w.heap.size w w':=Any.strings_Join Tryz.lays156 Tryz.Builder_Extra_156 bk o c xs sep w hcells hbk hN hcap hlen
def Tryz.lays172_ren:Go.Shelf.Ren:=⟨fun | 172=>95 | 244=>129 | 245=>130 | 247=>163 | 279=>164 | 280=>165 | 281=>166 | 282=>167 | 287=>220 | 316=>221 | 171=>177 | 205=>222 | 321=>263 | 322=>264 | 243=>232 | 246=>274 | 283=>295 | 284=>296 | 285=>297 | 286=>298 | 129=>313 | 317=>312 | 318=>314 | 319=>315 | 320=>316 | 337=>321 | 338=>322 | n=>n,fun | 9=>9 | 3=>3 | 75=>160 | 76=>161 | 4=>4 | 5=>5 | 167=>226 | 37=>227 | 0=>0 | 85=>228 | 2=>2 | 168=>230 | 53=>277 | 175=>278 | 46=>280 | 210=>282 | 127=>287 | 145=>309 | 143=>307 | 21=>21 | 171=>334 | 173=>337 | 212=>356 | 51=>310 | 20=>20 | 213=>357 | 232=>368 | 233=>369 | 80=>89 | n=>n,fun | 15=>0 | 16=>1 | 17=>7 | 18=>9 | 19=>10 | n=>n⟩
theorem Tryz.lays172:Go.Proofs.Lays.n172 Tryz.prog Tryz.lays172_ren:=by constructor<;>intros<;>first|kernel_rfl|(constructor<;>intros<;>first|kernel_rfl|(constructor<;>intros<;>kernel_rfl))
open Go.RowKit in
theorem Tryz.strconv_Atoi (s:ByteArray) (n:Int) (hl:s.size<=18) (h:Lib.atoi s.data.toList=some n) (w:World):
  Calls Tryz.prog 95 #[.string s] w λe w'=>e=.returned (.tuple #[.int .i64 n,.nilIface])/\∃t,w'=Lib.bytesWorld w 5 t:=Any.strconv_Atoi Tryz.lays172 s n hl h w
def Tryz.lays171_ren:Go.Shelf.Ren:=⟨fun | 171=>177 | 243=>232 | 246=>274 | 283=>295 | 284=>296 | 285=>297 | 286=>298 | 129=>313 | 317=>312 | 318=>314 | 319=>315 | 320=>316 | 337=>321 | 338=>322 | n=>n,fun | 3=>3 | 9=>9 | 2=>2 | 4=>4 | 171=>334 | 0=>0 | 53=>277 | 37=>227 | 5=>5 | 173=>337 | 212=>356 | 51=>310 | 20=>20 | 213=>357 | 46=>280 | 232=>368 | 233=>369 | n=>n,fun | 17=>7 | 18=>9 | 19=>10 | n=>n⟩
theorem Tryz.lays171:Go.Proofs.Lays.n171 Tryz.prog Tryz.lays171_ren:=by constructor<;>intros<;>first|kernel_rfl|(constructor<;>intros<;>first|kernel_rfl|(constructor<;>intros<;>kernel_rfl))
open Go.RowKit Go.Sort Go.Lib in
theorem Tryz.strconv_Itoa_small (i:Nat) (hi:i<100) (w:World):
  Calls Tryz.prog 177 #[.int .i64 i] w λe w'=>e=.returned (.string ⟨(Lib.decDigits i).toArray⟩)/\w'=w:=Any.strconv_Itoa_small Tryz.lays171 i hi w
def Tryz.laysC172_ren:Go.Shelf.Ren:=⟨fun | 172=>95 | 244=>129 | 245=>130 | 247=>163 | 279=>164 | 280=>165 | 281=>166 | 282=>167 | 287=>220 | 316=>221 | 171=>177 | 205=>222 | 321=>263 | 322=>264 | 243=>232 | 246=>274 | 283=>295 | 284=>296 | 285=>297 | 286=>298 | 129=>313 | 317=>312 | 318=>314 | 319=>315 | 320=>316 | 337=>321 | 338=>322 | n=>n,fun | 9=>9 | 3=>3 | 75=>160 | 76=>161 | 4=>4 | 5=>5 | 167=>226 | 37=>227 | 0=>0 | 85=>228 | 2=>2 | 168=>230 | 53=>277 | 175=>278 | 46=>280 | 210=>282 | 127=>287 | 145=>309 | 143=>307 | 21=>21 | 171=>334 | 173=>337 | 212=>356 | 51=>310 | 20=>20 | 213=>357 | 232=>368 | 233=>369 | 80=>89 | n=>n,fun | 15=>0 | 16=>1 | 17=>7 | 18=>9 | 19=>10 | n=>n⟩
theorem Tryz.laysC172:Go.Proofs.LaysC.n172 Tryz.prog Tryz.laysC172_ren:=by constructor<;>intros<;>first|kernel_rfl|(constructor<;>intros<;>first|kernel_rfl|(constructor<;>intros<;>kernel_rfl))
open Go.RowKit in
theorem Tryz.strconv_Atoi_err (s:ByteArray) (hl:s.size<=18) (h:Lib.atoi s.data.toList=none) (ev:Value) (w:World) (hv:w.cell? ⟨0,0,none⟩=some ev) (hev:ev=.nilIface\/∃te pe,ev=.iface te pe):
  Calls Tryz.prog 95 #[.string s] w λe w'=>∃N,e=.returned (.tuple #[.int .i64 0,.iface 230 (.pointer (some ⟨N,0,none⟩))])/\w.heap.size<=N/\w'.heap[N]?=some (.cells #[.string ⟨#[65,116,111,105]⟩,.string s,ev] 282 (0,0))/\Below w.heap.size w w':=Any.strconv_Atoi_err Tryz.laysC172 s hl h ev w hv hev
def Tryz.laysC174_ren:Go.Shelf.Ren:=⟨fun | 174=>276 | 247=>163 | 245=>130 | 287=>220 | 279=>164 | 280=>165 | 281=>166 | 282=>167 | 321=>263 | 322=>264 | 316=>221 | 171=>177 | 205=>222 | 243=>232 | 246=>274 | 283=>295 | 284=>296 | 285=>297 | 286=>298 | 129=>313 | 317=>312 | 318=>314 | 319=>315 | 320=>316 | 337=>321 | 338=>322 | n=>n,fun | 9=>9 | 3=>3 | 2=>2 | 75=>160 | 85=>228 | 4=>4 | 167=>226 | 5=>5 | 53=>277 | 175=>278 | 46=>280 | 168=>230 | 37=>227 | 0=>0 | 210=>282 | 21=>21 | 127=>287 | 145=>309 | 143=>307 | 171=>334 | 173=>337 | 212=>356 | 51=>310 | 20=>20 | 213=>357 | 232=>368 | 233=>369 | 80=>89 | n=>n,fun | 15=>0 | 16=>1 | 17=>7 | 18=>9 | 19=>10 | n=>n⟩
theorem Tryz.laysC174:Go.Proofs.LaysC.n174 Tryz.prog Tryz.laysC174_ren:=by constructor<;>intros<;>first|kernel_rfl|(constructor<;>intros<;>first|kernel_rfl|(constructor<;>intros<;>kernel_rfl))
open Go.RowKit in
theorem Tryz.strconv_ParseInt_10_at64_ok (s:ByteArray) (hmax:s.size<=9223372036854775806) (v:Int) (h:Lib.parseIntB 64 s.data.toList=.ok v) (w:World):
  Calls Tryz.prog 276 #[.string s,.int .i64 10,.int .i64 64] w λe w'=>e=.returned (.tuple #[.int .i64 v,.nilIface])/\(w'=w\/∃t,w'=Lib.bytesWorld w 5 t):=Any.strconv_ParseInt_10_at64_ok Tryz.laysC174 s hmax v h w
def Tryz.lays150_ren:Go.Shelf.Ren:=⟨fun | 150=>152 | 153=>207 | 152=>258 | 226=>259 | 227=>200 | 228=>250 | 137=>143 | 119=>288 | 224=>224 | 225=>223 | 217=>182 | 266=>234 | n=>n,fun | 9=>9 | 4=>4 | 3=>3 | 5=>5 | 21=>21 | 117=>262 | 116=>261 | 0=>0 | 46=>280 | 124=>265 | n=>n,fun | n=>n⟩
theorem Tryz.lays150:Go.Proofs.Lays.n150 Tryz.prog Tryz.lays150_ren:=by constructor<;>intros<;>first|kernel_rfl|(constructor<;>intros<;>first|kernel_rfl|(constructor<;>intros<;>kernel_rfl))
open Go.RowKit Go.Lib in
theorem Tryz.strings_ContainsAny_laid (s chars:ByteArray) (w:World) (hs:s.size<4294967281) (hcs:chars.size<4294967281) (has:∀(j:Nat) b,s.data.toList[j]?=some b->b.toNat<128) (hac:∀(j:Nat) b,chars.data.toList[j]?=some b->b.toNat<128):
  Calls Tryz.prog 152 #[.string s,.string chars] w λe w'=>e=.returned (.bool (Lib.containsAny s.data.toList chars.data.toList))/\Below w.heap.size w w':=Any.strings_ContainsAny_laid Tryz.lays150 (by kernel_rfl) s chars w hs hcs has hac
def Tryz.lays230_ren:Go.Shelf.Ren:=⟨fun | 230=>206 | 197=>253 | 118=>254 | 165=>181 | 166=>176 | 168=>255 | 270=>256 | 167=>257 | 169=>178 | 260=>286 | 240=>231 | 241=>233 | 242=>287 | 276=>273 | 277=>275 | 278=>304 | n=>n,fun | 107=>267 | 9=>9 | 72=>238 | 0=>0 | 4=>4 | 3=>3 | 21=>21 | 105=>297 | 76=>161 | 5=>5 | 75=>160 | 70=>236 | 20=>20 | 37=>227 | 127=>287 | 119=>347 | 46=>280 | 139=>350 | 138=>349 | 164=>318 | 51=>310 | 80=>89 | n=>n,fun | 3=>5 | 4=>6 | n=>n⟩
theorem Tryz.lays230:Go.Proofs.Lays.n230 Tryz.prog Tryz.lays230_ren:=by constructor<;>intros<;>first|kernel_rfl|(constructor<;>intros<;>first|kernel_rfl|(constructor<;>intros<;>kernel_rfl))
theorem Tryz.Builder_Extra_230:Builder.Extra Tryz.prog Tryz.lays230_ren:={
 sizeBuilder:=by kernel_rfl
 liesBuilder:=by kernel_rfl
 t5:=Tryz.underlying5
 a5:=Tryz.isAgg5
 z5:=Tryz.sizeOf5
 v5:=Tryz.zeroValue5
 infoByte:=by kernel_rfl
 cellsByte:=by kernel_rfl
 sizeByte:=by kernel_rfl
 neB5:=by decide }
open Go.RowKit Go.Lib in
theorem Tryz.strings_Map_runes (g:Nat) (lb:Array Value) (eg:∀args w,(callFunc g args).run Tryz.prog w=.ok (.enter g args) w) (f:Int->Int) (s:ByteArray) (w:World) (hs:s.size<35184372088832) (hf:MapAtRunes Tryz.prog g lb f w) (hnn:∀x:Nat,x<=1114111->0<=f x/\f x<=2147483647) (hT:Lib.Utf8Tabs 5 6 w):
  Calls Tryz.prog 206 #[.func (.func g) #[] lb,.string s] w λe w'=>e=.returned (.string ⟨(Lib.mapD f s.data.toList).toArray⟩)/\Below w.heap.size w w':=Any.strings_Map_runes Tryz.lays230 Tryz.Builder_Extra_230 g lb eg f s w hs hf hnn hT
def Tryz.lays162_ren:Go.Shelf.Ren:=⟨fun | 162=>148 | 232=>199 | 227=>200 | 234=>201 | 236=>202 | 228=>250 | 271=>251 | 151=>252 | 120=>285 | 197=>253 | 152=>258 | 260=>286 | 137=>143 | 119=>288 | 224=>224 | 225=>223 | 217=>182 | 266=>234 | n=>n,fun | 9=>9 | 4=>4 | 3=>3 | 5=>5 | 117=>262 | 116=>261 | 0=>0 | 124=>265 | 21=>21 | 105=>297 | 46=>280 | 119=>347 | 139=>350 | 138=>349 | n=>n,fun | 3=>5 | 4=>6 | n=>n⟩
theorem Tryz.lays162:Go.Proofs.Lays.n162 Tryz.prog Tryz.lays162_ren:=by constructor<;>intros<;>first|kernel_rfl|(constructor<;>intros<;>first|kernel_rfl|(constructor<;>intros<;>kernel_rfl))
theorem Tryz.strings_TrimRight_laid (s cutset:ByteArray) (w:World) (hs:s.size<=9223372036854775807) (hcs:cutset.size<4294967281) (hascii:∀(j:Nat) b,cutset.data.toList[j]?=some b->b.toNat<128):
  Calls Tryz.prog 148 #[.string s,.string cutset] w λe w'=>e=.returned (.string ⟨(Lib.trimRightS s.data.toList cutset.data.toList).toArray⟩)/\Go.RowKit.Below w.heap.size w w':=
 Any.strings_TrimRight_laid Tryz.lays162 (by kernel_rfl) s cutset w hs hcs hascii
def Tryz.lays166_ren:Go.Shelf.Ren:=⟨fun | 166=>176 | 240=>231 | 276=>273 | n=>n,fun | 0=>0 | 3=>3 | 4=>4 | 5=>5 | 9=>9 | 20=>20 | 37=>227 | 70=>236 | 72=>238 | 75=>160 | 80=>89 | 164=>318 | n=>n,fun | n=>n⟩
theorem Tryz.lays166:Go.Proofs.Lays.n166 Tryz.prog Tryz.lays166_ren:=by constructor<;>intros<;>first|kernel_rfl|(constructor<;>intros<;>first|kernel_rfl|(constructor<;>intros<;>kernel_rfl))
theorem Tryz.Builder_Extra_166:Builder.Extra Tryz.prog Tryz.lays166_ren:={
 sizeBuilder:=by kernel_rfl
 liesBuilder:=by kernel_rfl
 t5:=Tryz.underlying5
 a5:=Tryz.isAgg5
 z5:=Tryz.sizeOf5
 v5:=Tryz.zeroValue5
 infoByte:=by kernel_rfl
 cellsByte:=by kernel_rfl
 sizeByte:=by kernel_rfl
 neB5:=by decide }
theorem Tryz.Builder_WriteString (B b:Nat) (bs:List Value) (s:ByteArray) (w:World) (h:Lib.IsBuilder 238 5 B b bs w) (hlen:bs.length+s.size<=140737488355328) (hBw:B<=w.heap.size):
  Calls Tryz.prog 176 #[.pointer (some ⟨b,0,none⟩),.string s] w λe w'=>e=.returned (.tuple #[.int .i64 s.size,.nilIface])/\(Lib.BuilderAt 238 5 B b (.pointer (some ⟨b,0,none⟩)) (bs++Lib.strCells s) w'/\Go.RowKit.Below B w w'):=Any.Builder_WriteString Tryz.lays166 Tryz.Builder_Extra_166 B b bs s w h hlen hBw
end Go.Proofs
