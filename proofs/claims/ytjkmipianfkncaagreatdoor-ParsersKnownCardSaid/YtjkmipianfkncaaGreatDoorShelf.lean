/-
  DERIVED: THE SHELF's CONTRACTS AT THIS DUMP, IN PLAIN WORDS (tools/lay-plain.mjs out of 'YtjkmipianfkncaaGreatDoorShelf.lean', which tools/lay-shelf.mjs wrote): THE SAME DECLARATIONS UNDER THE SAME NAMES: 'import', 'namespace', 'open', 'def', 'theorem' AND NOTHING ELSE: no command of the shelf's: FOR A HAND-IN. Each laying: the table of numbers ('.._ren') and one theorem, a field a fact of the dump's own or the kernel's comparison; each contract: ONE APPLICATION.
-/
import Derived.Shelf.Strings.SlTrimAscii
import Derived.Shelf.Strings.Builder1
import Derived.Shelf.Strconv.Atoi
import Derived.Shelf.LaysM
import Derived.Shelf.Strconv.Itoa3
import Derived.Shelf.LaysC
import Derived.Shelf.Strconv.AtoiErr
import Derived.Shelf.Strconv.ParseIntPublic10
import Derived.Shelf.Strings.IndexAnyAll
import Derived.Shelf.Strings.MapAny
import Derived.Ground.Names2Prog
import Derived.Shelf.Slices.Clone
import Derived.Test.YtjkmipianfkncaaGreatDoorProg
namespace Go.Proofs
open Go.Shelf
def Tryz.lays172_ren:Go.Shelf.Ren:=⟨fun | 172=>112 | 244=>159 | 245=>160 | 247=>204 | 279=>205 | 280=>206 | 281=>207 | 282=>208 | 287=>239 | 316=>240 | 171=>242 | 205=>241 | 321=>255 | 322=>256 | 243=>257 | 246=>259 | 283=>260 | 284=>261 | 285=>262 | 286=>263 | 129=>265 | 317=>264 | 318=>266 | 319=>267 | 320=>268 | 337=>269 | 338=>270 | n=>n,fun | 9=>9 | 3=>3 | 75=>169 | 76=>170 | 4=>4 | 5=>5 | 167=>243 | 37=>41 | 0=>0 | 85=>239 | 2=>2 | 168=>244 | 53=>266 | 175=>272 | 46=>254 | 210=>275 | 127=>251 | 145=>294 | 143=>292 | 21=>21 | 171=>300 | 173=>303 | 212=>306 | 51=>284 | 20=>20 | 213=>307 | 232=>310 | 233=>311 | 80=>90 | n=>n,fun | 15=>3 | 16=>4 | 17=>8 | 18=>9 | 19=>10 | n=>n⟩
theorem Tryz.lays172:Go.Proofs.Lays.n172 Tryz.prog Tryz.lays172_ren:=by constructor<;>intros<;>first|kernel_rfl|(constructor<;>intros<;>first|kernel_rfl|(constructor<;>intros<;>kernel_rfl))
open Go.RowKit in
theorem Tryz.strconv_Atoi (s:ByteArray) (n:Int) (hl:s.size<=18) (h:Lib.atoi s.data.toList=some n) (w:World):
  Calls Tryz.prog 112 #[.string s] w λe w'=>e=.returned (.tuple #[.int .i64 n,.nilIface])/\∃t,w'=Lib.bytesWorld w 5 t:=Any.strconv_Atoi Tryz.lays172 s n hl h w
def Tryz.laysC172_ren:Go.Shelf.Ren:=⟨fun | 172=>112 | 244=>159 | 245=>160 | 247=>204 | 279=>205 | 280=>206 | 281=>207 | 282=>208 | 287=>239 | 316=>240 | 171=>242 | 205=>241 | 321=>255 | 322=>256 | 243=>257 | 246=>259 | 283=>260 | 284=>261 | 285=>262 | 286=>263 | 129=>265 | 317=>264 | 318=>266 | 319=>267 | 320=>268 | 337=>269 | 338=>270 | n=>n,fun | 9=>9 | 3=>3 | 75=>169 | 76=>170 | 4=>4 | 5=>5 | 167=>243 | 37=>41 | 0=>0 | 85=>239 | 2=>2 | 168=>244 | 53=>266 | 175=>272 | 46=>254 | 210=>275 | 127=>251 | 145=>294 | 143=>292 | 21=>21 | 171=>300 | 173=>303 | 212=>306 | 51=>284 | 20=>20 | 213=>307 | 232=>310 | 233=>311 | 80=>90 | n=>n,fun | 15=>3 | 16=>4 | 17=>8 | 18=>9 | 19=>10 | n=>n⟩
theorem Tryz.laysC172:Go.Proofs.LaysC.n172 Tryz.prog Tryz.laysC172_ren:=by constructor<;>intros<;>first|kernel_rfl|(constructor<;>intros<;>first|kernel_rfl|(constructor<;>intros<;>kernel_rfl))
open Go.RowKit in
theorem Tryz.strconv_Atoi_err (s:ByteArray) (hl:s.size<=18) (h:Lib.atoi s.data.toList=none) (ev:Value) (w:World) (hv:w.cell? ⟨3,0,none⟩=some ev) (hev:ev=.nilIface\/∃te pe,ev=.iface te pe):
  Calls Tryz.prog 112 #[.string s] w λe w'=>∃N,e=.returned (.tuple #[.int .i64 0,.iface 244 (.pointer (some ⟨N,0,none⟩))])/\w.heap.size<=N/\w'.heap[N]?=some (.cells #[.string ⟨#[65,116,111,105]⟩,.string s,ev] 275 (0,0))/\Below w.heap.size w w':=Any.strconv_Atoi_err Tryz.laysC172 s hl h ev w hv hev
def Tryz.laysC174_ren:Go.Shelf.Ren:=⟨fun | 174=>201 | 247=>204 | 245=>160 | 287=>239 | 279=>205 | 280=>206 | 281=>207 | 282=>208 | 321=>255 | 322=>256 | 316=>240 | 171=>242 | 205=>241 | 243=>257 | 246=>259 | 283=>260 | 284=>261 | 285=>262 | 286=>263 | 129=>265 | 317=>264 | 318=>266 | 319=>267 | 320=>268 | 337=>269 | 338=>270 | n=>n,fun | 9=>9 | 3=>3 | 2=>2 | 75=>169 | 85=>239 | 4=>4 | 167=>243 | 5=>5 | 53=>266 | 175=>272 | 46=>254 | 168=>244 | 37=>41 | 0=>0 | 210=>275 | 21=>21 | 127=>251 | 145=>294 | 143=>292 | 171=>300 | 173=>303 | 212=>306 | 51=>284 | 20=>20 | 213=>307 | 232=>310 | 233=>311 | 80=>90 | n=>n,fun | 15=>3 | 16=>4 | 17=>8 | 18=>9 | 19=>10 | n=>n⟩
theorem Tryz.laysC174:Go.Proofs.LaysC.n174 Tryz.prog Tryz.laysC174_ren:=by constructor<;>intros<;>first|kernel_rfl|(constructor<;>intros<;>first|kernel_rfl|(constructor<;>intros<;>kernel_rfl))
open Go.RowKit in
theorem Tryz.strconv_ParseInt_10_at64_ok (s:ByteArray) (hmax:s.size<=9223372036854775806) (v:Int) (h:Lib.parseIntB 64 s.data.toList=.ok v) (w:World):
  Calls Tryz.prog 201 #[.string s,.int .i64 10,.int .i64 64] w λe w'=>e=.returned (.tuple #[.int .i64 v,.nilIface])/\(w'=w\/∃t,w'=Lib.bytesWorld w 5 t):=Any.strconv_ParseInt_10_at64_ok Tryz.laysC174 s hmax v h w
def Tryz.lays150_ren:Go.Shelf.Ren:=⟨fun | 150=>85 | 153=>145 | 152=>189 | 226=>190 | 227=>137 | 228=>177 | 137=>76 | 119=>219 | 224=>220 | 225=>221 | 217=>124 | 266=>173 | n=>n,fun | 9=>9 | 4=>4 | 3=>3 | 5=>5 | 21=>21 | 117=>192 | 116=>191 | 0=>0 | 46=>254 | 124=>195 | n=>n,fun | n=>n⟩
theorem Tryz.lays150:Go.Proofs.Lays.n150 Tryz.prog Tryz.lays150_ren:=by constructor<;>intros<;>first|kernel_rfl|(constructor<;>intros<;>first|kernel_rfl|(constructor<;>intros<;>kernel_rfl))
open Go.RowKit Go.Lib in
theorem Tryz.strings_ContainsAny_laid (s chars:ByteArray) (w:World) (hs:s.size<4294967281) (hcs:chars.size<4294967281) (has:∀(j:Nat) b,s.data.toList[j]?=some b->b.toNat<128) (hac:∀(j:Nat) b,chars.data.toList[j]?=some b->b.toNat<128):
  Calls Tryz.prog 85 #[.string s,.string chars] w λe w'=>e=.returned (.bool (Lib.containsAny s.data.toList chars.data.toList))/\Below w.heap.size w w':=Any.strings_ContainsAny_laid Tryz.lays150 (by kernel_rfl) s chars w hs hcs has hac
def Tryz.lays230_ren:Go.Shelf.Ren:=⟨fun | 230=>144 | 197=>181 | 118=>182 | 165=>183 | 166=>184 | 168=>185 | 270=>186 | 167=>187 | 169=>188 | 260=>215 | 240=>216 | 241=>217 | 242=>218 | 276=>245 | 277=>246 | 278=>247 | n=>n,fun | 107=>197 | 9=>9 | 72=>226 | 0=>0 | 4=>4 | 3=>3 | 21=>21 | 105=>221 | 76=>170 | 5=>5 | 75=>169 | 70=>224 | 20=>20 | 37=>41 | 127=>251 | 119=>277 | 46=>254 | 139=>280 | 138=>279 | 164=>281 | 51=>284 | 80=>90 | n=>n,fun | 3=>5 | 4=>6 | n=>n⟩
theorem Tryz.lays230:Go.Proofs.Lays.n230 Tryz.prog Tryz.lays230_ren:=by constructor<;>intros<;>first|kernel_rfl|(constructor<;>intros<;>first|kernel_rfl|(constructor<;>intros<;>kernel_rfl))
theorem Tryz.Builder_Extra_230:Builder.Extra Tryz.prog Tryz.lays230_ren:={
 sizeBuilder:=by kernel_rfl
 liesBuilder:=by kernel_rfl
 t5:=Tryz.underlying5
 a5:=Tryz.isAgg5
 z5:=Tryz.sizeOf5
 v5:=Tryz.zeroValue5
 infoByte:=by kernel_rfl
 cellsByte:=by kernel_rfl
 sizeByte:=by kernel_rfl
 neB5:=by decide }
open Go.RowKit Go.Lib in
theorem Tryz.strings_Map_runes (g:Nat) (lb:Array Value) (eg:∀args w,(callFunc g args).run Tryz.prog w=.ok (.enter g args) w) (f:Int->Int) (s:ByteArray) (w:World) (hs:s.size<35184372088832) (hf:MapAtRunes Tryz.prog g lb f w) (hnn:∀x:Nat,x<=1114111->0<=f x/\f x<=2147483647) (hT:Lib.Utf8Tabs 5 6 w):
  Calls Tryz.prog 144 #[.func (.func g) #[] lb,.string s] w λe w'=>e=.returned (.string ⟨(Lib.mapD f s.data.toList).toArray⟩)/\Below w.heap.size w w':=Any.strings_Map_runes Tryz.lays230 Tryz.Builder_Extra_230 g lb eg f s w hs hf hnn hT
def Tryz.lays162_ren:Go.Shelf.Ren:=⟨fun | 162=>80 | 232=>136 | 227=>137 | 234=>138 | 236=>139 | 228=>177 | 271=>178 | 151=>179 | 120=>213 | 197=>181 | 152=>189 | 260=>215 | 137=>76 | 119=>219 | 224=>220 | 225=>221 | 217=>124 | 266=>173 | n=>n,fun | 9=>9 | 4=>4 | 3=>3 | 5=>5 | 117=>192 | 116=>191 | 0=>0 | 124=>195 | 21=>21 | 105=>221 | 46=>254 | 119=>277 | 139=>280 | 138=>279 | n=>n,fun | 3=>5 | 4=>6 | n=>n⟩
theorem Tryz.lays162:Go.Proofs.Lays.n162 Tryz.prog Tryz.lays162_ren:=by constructor<;>intros<;>first|kernel_rfl|(constructor<;>intros<;>first|kernel_rfl|(constructor<;>intros<;>kernel_rfl))
theorem Tryz.strings_TrimRight_laid (s cutset:ByteArray) (w:World) (hs:s.size<=9223372036854775807) (hcs:cutset.size<4294967281) (hascii:∀(j:Nat) b,cutset.data.toList[j]?=some b->b.toNat<128):
  Calls Tryz.prog 80 #[.string s,.string cutset] w λe w'=>e=.returned (.string ⟨(Lib.trimRightS s.data.toList cutset.data.toList).toArray⟩)/\Go.RowKit.Below w.heap.size w w':=
 Any.strings_TrimRight_laid Tryz.lays162 (by kernel_rfl) s cutset w hs hcs hascii
end Go.Proofs
