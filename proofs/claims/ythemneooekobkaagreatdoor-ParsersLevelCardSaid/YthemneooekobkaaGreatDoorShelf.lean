/-
  DERIVED: THE SHELF's CONTRACTS AT THIS DUMP, IN PLAIN WORDS (tools/lay-plain.mjs out of 'YthemneooekobkaaGreatDoorShelf.lean', which tools/lay-shelf.mjs wrote): THE SAME DECLARATIONS UNDER THE SAME NAMES: 'import', 'namespace', 'open', 'def', 'theorem' AND NOTHING ELSE: no command of the shelf's: FOR A HAND-IN. Each laying: the table of numbers ('.._ren') and one theorem, a field a fact of the dump's own or the kernel's comparison; each contract: ONE APPLICATION.
-/
import Derived.Shelf.Strings.SlTrimAscii
import Derived.Shelf.Strings.Builder1
import Derived.Shelf.Strings.OnBuilder
import Derived.Shelf.Strconv.Atoi
import Derived.Shelf.LaysM
import Derived.Shelf.Strconv.Itoa3
import Derived.Shelf.LaysC
import Derived.Shelf.Strconv.AtoiErr
import Derived.Shelf.Strconv.ParseIntPublic10
import Derived.Shelf.Strings.IndexAnyAll
import Derived.Shelf.Strings.MapAny
import Derived.Ground.Names2Prog
import Derived.Shelf.Slices.Clone
import Derived.Test.YthemneooekobkaaGreatDoorProg
namespace Go.Proofs
open Go.Shelf
def Tryz.lays172_ren:Go.Shelf.Ren:=⟨fun | 172=>99 | 244=>156 | 245=>157 | 247=>205 | 279=>206 | 280=>207 | 281=>208 | 282=>209 | 287=>243 | 316=>244 | 171=>191 | 205=>245 | 321=>278 | 322=>279 | 243=>234 | 246=>266 | 283=>285 | 284=>286 | 285=>287 | 286=>288 | 129=>302 | 317=>301 | 318=>303 | 319=>304 | 320=>305 | 337=>310 | 338=>311 | n=>n,fun | 9=>9 | 3=>3 | 75=>153 | 76=>154 | 4=>4 | 5=>5 | 167=>260 | 37=>215 | 0=>0 | 85=>261 | 2=>2 | 168=>263 | 53=>287 | 175=>288 | 46=>270 | 210=>291 | 127=>267 | 145=>318 | 143=>316 | 21=>21 | 171=>324 | 173=>327 | 212=>342 | 51=>300 | 20=>20 | 213=>343 | 232=>354 | 233=>355 | 80=>75 | n=>n,fun | 15=>0 | 16=>1 | 17=>7 | 18=>9 | 19=>10 | n=>n⟩
theorem Tryz.lays172:Go.Proofs.Lays.n172 Tryz.prog Tryz.lays172_ren:=by constructor<;>intros<;>first|kernel_rfl|(constructor<;>intros<;>first|kernel_rfl|(constructor<;>intros<;>kernel_rfl))
open Go.RowKit in
theorem Tryz.strconv_Atoi (s:ByteArray) (n:Int) (hl:s.size<=18) (h:Lib.atoi s.data.toList=some n) (w:World):
  Calls Tryz.prog 99 #[.string s] w λe w'=>e=.returned (.tuple #[.int .i64 n,.nilIface])/\∃t,w'=Lib.bytesWorld w 5 t:=Any.strconv_Atoi Tryz.lays172 s n hl h w
def Tryz.laysC172_ren:Go.Shelf.Ren:=⟨fun | 172=>99 | 244=>156 | 245=>157 | 247=>205 | 279=>206 | 280=>207 | 281=>208 | 282=>209 | 287=>243 | 316=>244 | 171=>191 | 205=>245 | 321=>278 | 322=>279 | 243=>234 | 246=>266 | 283=>285 | 284=>286 | 285=>287 | 286=>288 | 129=>302 | 317=>301 | 318=>303 | 319=>304 | 320=>305 | 337=>310 | 338=>311 | n=>n,fun | 9=>9 | 3=>3 | 75=>153 | 76=>154 | 4=>4 | 5=>5 | 167=>260 | 37=>215 | 0=>0 | 85=>261 | 2=>2 | 168=>263 | 53=>287 | 175=>288 | 46=>270 | 210=>291 | 127=>267 | 145=>318 | 143=>316 | 21=>21 | 171=>324 | 173=>327 | 212=>342 | 51=>300 | 20=>20 | 213=>343 | 232=>354 | 233=>355 | 80=>75 | n=>n,fun | 15=>0 | 16=>1 | 17=>7 | 18=>9 | 19=>10 | n=>n⟩
theorem Tryz.laysC172:Go.Proofs.LaysC.n172 Tryz.prog Tryz.laysC172_ren:=by constructor<;>intros<;>first|kernel_rfl|(constructor<;>intros<;>first|kernel_rfl|(constructor<;>intros<;>kernel_rfl))
open Go.RowKit in
theorem Tryz.strconv_Atoi_err (s:ByteArray) (hl:s.size<=18) (h:Lib.atoi s.data.toList=none) (ev:Value) (w:World) (hv:w.cell? ⟨0,0,none⟩=some ev) (hev:ev=.nilIface\/∃te pe,ev=.iface te pe):
  Calls Tryz.prog 99 #[.string s] w λe w'=>∃N,e=.returned (.tuple #[.int .i64 0,.iface 263 (.pointer (some ⟨N,0,none⟩))])/\w.heap.size<=N/\w'.heap[N]?=some (.cells #[.string ⟨#[65,116,111,105]⟩,.string s,ev] 291 (0,0))/\Below w.heap.size w w':=Any.strconv_Atoi_err Tryz.laysC172 s hl h ev w hv hev
def Tryz.laysC174_ren:Go.Shelf.Ren:=⟨fun | 174=>267 | 247=>205 | 245=>157 | 287=>243 | 279=>206 | 280=>207 | 281=>208 | 282=>209 | 321=>278 | 322=>279 | 316=>244 | 171=>191 | 205=>245 | 243=>234 | 246=>266 | 283=>285 | 284=>286 | 285=>287 | 286=>288 | 129=>302 | 317=>301 | 318=>303 | 319=>304 | 320=>305 | 337=>310 | 338=>311 | n=>n,fun | 9=>9 | 3=>3 | 2=>2 | 75=>153 | 85=>261 | 4=>4 | 167=>260 | 5=>5 | 53=>287 | 175=>288 | 46=>270 | 168=>263 | 37=>215 | 0=>0 | 210=>291 | 21=>21 | 127=>267 | 145=>318 | 143=>316 | 171=>324 | 173=>327 | 212=>342 | 51=>300 | 20=>20 | 213=>343 | 232=>354 | 233=>355 | 80=>75 | n=>n,fun | 15=>0 | 16=>1 | 17=>7 | 18=>9 | 19=>10 | n=>n⟩
theorem Tryz.laysC174:Go.Proofs.LaysC.n174 Tryz.prog Tryz.laysC174_ren:=by constructor<;>intros<;>first|kernel_rfl|(constructor<;>intros<;>first|kernel_rfl|(constructor<;>intros<;>kernel_rfl))
open Go.RowKit in
theorem Tryz.strconv_ParseInt_10_at64_ok (s:ByteArray) (hmax:s.size<=9223372036854775806) (v:Int) (h:Lib.parseIntB 64 s.data.toList=.ok v) (w:World):
  Calls Tryz.prog 267 #[.string s,.int .i64 10,.int .i64 64] w λe w'=>e=.returned (.tuple #[.int .i64 v,.nilIface])/\(w'=w\/∃t,w'=Lib.bytesWorld w 5 t):=Any.strconv_ParseInt_10_at64_ok Tryz.laysC174 s hmax v h w
def Tryz.lays150_ren:Go.Shelf.Ren:=⟨fun | 150=>64 | 153=>110 | 152=>170 | 226=>171 | 227=>102 | 228=>158 | 137=>176 | 119=>216 | 224=>217 | 225=>218 | 217=>219 | 266=>250 | n=>n,fun | 9=>9 | 4=>4 | 3=>3 | 5=>5 | 21=>21 | 117=>160 | 116=>159 | 0=>0 | 46=>270 | 124=>163 | n=>n,fun | n=>n⟩
theorem Tryz.lays150:Go.Proofs.Lays.n150 Tryz.prog Tryz.lays150_ren:=by constructor<;>intros<;>first|kernel_rfl|(constructor<;>intros<;>first|kernel_rfl|(constructor<;>intros<;>kernel_rfl))
open Go.RowKit Go.Lib in
theorem Tryz.strings_ContainsAny_laid (s chars:ByteArray) (w:World) (hs:s.size<4294967281) (hcs:chars.size<4294967281) (has:∀(j:Nat) b,s.data.toList[j]?=some b->b.toNat<128) (hac:∀(j:Nat) b,chars.data.toList[j]?=some b->b.toNat<128):
  Calls Tryz.prog 64 #[.string s,.string chars] w λe w'=>e=.returned (.bool (Lib.containsAny s.data.toList chars.data.toList))/\Below w.heap.size w w':=Any.strings_ContainsAny_laid Tryz.lays150 (by kernel_rfl) s chars w hs hcs has hac
def Tryz.lays230_ren:Go.Shelf.Ren:=⟨fun | 230=>109 | 197=>162 | 118=>163 | 165=>164 | 166=>165 | 168=>166 | 270=>167 | 167=>168 | 169=>169 | 260=>212 | 240=>213 | 241=>214 | 242=>215 | 276=>247 | 277=>248 | 278=>249 | n=>n,fun | 107=>165 | 9=>9 | 72=>217 | 0=>0 | 4=>4 | 3=>3 | 21=>21 | 105=>211 | 76=>154 | 5=>5 | 75=>153 | 70=>214 | 20=>20 | 37=>215 | 127=>267 | 119=>293 | 46=>270 | 139=>296 | 138=>295 | 164=>297 | 51=>300 | 80=>75 | n=>n,fun | 3=>3 | 4=>4 | n=>n⟩
theorem Tryz.lays230:Go.Proofs.Lays.n230 Tryz.prog Tryz.lays230_ren:=by constructor<;>intros<;>first|kernel_rfl|(constructor<;>intros<;>first|kernel_rfl|(constructor<;>intros<;>kernel_rfl))
theorem Tryz.Builder_Extra_230:Builder.Extra Tryz.prog Tryz.lays230_ren:={
 sizeBuilder:=by kernel_rfl
 liesBuilder:=by kernel_rfl
 t5:=Tryz.underlying5
 a5:=Tryz.isAgg5
 z5:=Tryz.sizeOf5
 v5:=Tryz.zeroValue5
 infoByte:=by kernel_rfl
 cellsByte:=by kernel_rfl
 sizeByte:=by kernel_rfl
 neB5:=by decide }
open Go.RowKit Go.Lib in
theorem Tryz.strings_Map_runes (g:Nat) (lb:Array Value) (eg:∀args w,(callFunc g args).run Tryz.prog w=.ok (.enter g args) w) (f:Int->Int) (s:ByteArray) (w:World) (hs:s.size<35184372088832) (hf:MapAtRunes Tryz.prog g lb f w) (hnn:∀x:Nat,x<=1114111->0<=f x/\f x<=2147483647) (hT:Lib.Utf8Tabs 3 4 w):
  Calls Tryz.prog 109 #[.func (.func g) #[] lb,.string s] w λe w'=>e=.returned (.string ⟨(Lib.mapD f s.data.toList).toArray⟩)/\Below w.heap.size w w':=Any.strings_Map_runes Tryz.lays230 Tryz.Builder_Extra_230 g lb eg f s w hs hf hnn hT
def Tryz.lays162_ren:Go.Shelf.Ren:=⟨fun | 162=>59 | 232=>101 | 227=>102 | 234=>103 | 236=>104 | 228=>158 | 271=>159 | 151=>160 | 120=>210 | 197=>162 | 152=>170 | 260=>212 | 137=>176 | 119=>216 | 224=>217 | 225=>218 | 217=>219 | 266=>250 | n=>n,fun | 9=>9 | 4=>4 | 3=>3 | 5=>5 | 117=>160 | 116=>159 | 0=>0 | 124=>163 | 21=>21 | 105=>211 | 46=>270 | 119=>293 | 139=>296 | 138=>295 | n=>n,fun | 3=>3 | 4=>4 | n=>n⟩
theorem Tryz.lays162:Go.Proofs.Lays.n162 Tryz.prog Tryz.lays162_ren:=by constructor<;>intros<;>first|kernel_rfl|(constructor<;>intros<;>first|kernel_rfl|(constructor<;>intros<;>kernel_rfl))
theorem Tryz.strings_TrimRight_laid (s cutset:ByteArray) (w:World) (hs:s.size<=9223372036854775807) (hcs:cutset.size<4294967281) (hascii:∀(j:Nat) b,cutset.data.toList[j]?=some b->b.toNat<128):
  Calls Tryz.prog 59 #[.string s,.string cutset] w λe w'=>e=.returned (.string ⟨(Lib.trimRightS s.data.toList cutset.data.toList).toArray⟩)/\Go.RowKit.Below w.heap.size w w':=
 Any.strings_TrimRight_laid Tryz.lays162 (by kernel_rfl) s cutset w hs hcs hascii
end Go.Proofs
