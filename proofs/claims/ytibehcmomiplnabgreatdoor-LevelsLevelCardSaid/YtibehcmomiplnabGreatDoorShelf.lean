/-
  DERIVED: THE SHELF's CONTRACTS AT THIS DUMP, IN PLAIN WORDS (tools/lay-plain.mjs out of 'YtibehcmomiplnabGreatDoorShelf.lean', which tools/lay-shelf.mjs wrote): THE SAME DECLARATIONS UNDER THE SAME NAMES: 'import', 'namespace', 'open', 'def', 'theorem' AND NOTHING ELSE: no command of the shelf's: FOR A HAND-IN. Each laying: the table of numbers ('.._ren') and one theorem, a field a fact of the dump's own or the kernel's comparison; each contract: ONE APPLICATION.
-/
import Derived.Shelf.Strings.SlTrimAscii
import Derived.Shelf.Strings.Builder1
import Derived.Shelf.Strings.OnBuilder
import Derived.Shelf.Strconv.Atoi
import Derived.Shelf.LaysM
import Derived.Shelf.Strconv.Itoa3
import Derived.Shelf.LaysC
import Derived.Shelf.Strconv.AtoiErr
import Derived.Shelf.Strconv.ParseIntPublic10
import Derived.Shelf.Strings.IndexAnyAll
import Derived.Shelf.Strings.MapAny
import Derived.Ground.Names2Prog
import Derived.Shelf.Slices.Clone
import Derived.Test.YtibehcmomiplnabGreatDoorProg
namespace Go.Proofs
open Go.Shelf
def Tryz.lays169_ren:Go.Shelf.Ren:=⟨fun | 169=>164 | n=>n,fun | 70=>233 | 9=>9 | 0=>0 | 72=>235 | 37=>196 | 127=>269 | 3=>3 | 5=>5 | n=>n,fun | n=>n⟩
theorem Tryz.lays169:Go.Proofs.Lays.n169 Tryz.prog Tryz.lays169_ren:=by constructor<;>intros<;>first|kernel_rfl|(constructor<;>intros<;>first|kernel_rfl|(constructor<;>intros<;>kernel_rfl))
theorem Tryz.Builder_Extra_169:Builder.Extra Tryz.prog Tryz.lays169_ren:={
 sizeBuilder:=by kernel_rfl
 liesBuilder:=by kernel_rfl
 t5:=Tryz.underlying5
 a5:=Tryz.isAgg5
 z5:=Tryz.sizeOf5
 v5:=Tryz.zeroValue5
 infoByte:=by kernel_rfl
 cellsByte:=by kernel_rfl
 sizeByte:=by kernel_rfl
 neB5:=by decide }
open Go.RowKit in
theorem Tryz.Builder_String_any (B b:Nat) (l:List UInt8) (w:World) (h:Lib.IsBuilder 235 5 B b (Lib.byteCells l) w) (hBw:B<=w.heap.size):
  Calls Tryz.prog 164 #[.pointer (some ⟨b,0,none⟩)] w λe w'=>e=.returned (.string ⟨l.toArray⟩)/\Below B w w':=Any.Builder_String_any Tryz.lays169 Tryz.Builder_Extra_169 B b l w h hBw
def Tryz.lays156_ren:Go.Shelf.Ren:=⟨fun | 156=>105 | 165=>167 | 166=>162 | 169=>164 | 240=>209 | 241=>211 | 276=>247 | 277=>249 | n=>n,fun | 31=>118 | 9=>9 | 3=>3 | 4=>4 | 0=>0 | 20=>20 | 72=>235 | 76=>97 | 70=>233 | 37=>196 | 75=>96 | 127=>269 | 164=>299 | 5=>5 | 80=>83 | n=>n,fun | n=>n⟩
theorem Tryz.lays156:Go.Proofs.Lays.n156 Tryz.prog Tryz.lays156_ren:=by constructor<;>intros<;>first|kernel_rfl|(constructor<;>intros<;>first|kernel_rfl|(constructor<;>intros<;>kernel_rfl))
theorem Tryz.Builder_Extra_156:Builder.Extra Tryz.prog Tryz.lays156_ren:={
 sizeBuilder:=by kernel_rfl
 liesBuilder:=by kernel_rfl
 t5:=Tryz.underlying5
 a5:=Tryz.isAgg5
 z5:=Tryz.sizeOf5
 v5:=Tryz.zeroValue5
 infoByte:=by kernel_rfl
 cellsByte:=by kernel_rfl
 sizeByte:=by kernel_rfl
 neB5:=by decide }
open Go.RowKit in
theorem Tryz.strings_Join_none (a:Option Addr) (c:Nat) (sep:ByteArray) (w:World):
  Calls Tryz.prog 105 #[.slice a 0 c,.string sep] w λe w'=>e=.returned (.string ⟨#[]⟩)/\w'=w:=Any.strings_Join_none Tryz.lays156 Tryz.Builder_Extra_156 a c sep w
open Go.RowKit in
theorem Tryz.strings_Join (bk o c:Nat) (xs:List ByteArray) (sep:ByteArray) (w:World) (hcells:∀(j:Nat) x,xs[j]?=some x->w.cell? ⟨bk,o+j,none⟩=some (.string x)) (hbk:bk<w.heap.size) (hN:xs.length<=140737488355328) (hcap:xs.length<=c) (hlen:(Lib.join (xs.map (·.data.toList)) sep.data.toList).length<=140737488355328):
  Calls Tryz.prog 105 #[.slice (some ⟨bk,o,none⟩) xs.length c,.string sep] w λe w'=>e=.returned (.string ⟨(Lib.join (xs.map (·.data.toList)) sep.data.toList).toArray⟩)/\Below w.heap.size w w':=Any.strings_Join Tryz.lays156 Tryz.Builder_Extra_156 bk o c xs sep w hcells hbk hN hcap hlen
def Tryz.lays172_ren:Go.Shelf.Ren:=⟨fun | 172=>43 | 244=>73 | 245=>74 | 247=>118 | 279=>119 | 280=>120 | 281=>121 | 282=>122 | 287=>176 | 316=>177 | 171=>163 | 205=>178 | 321=>220 | 322=>221 | 243=>210 | 246=>248 | 283=>283 | 284=>284 | 285=>285 | 286=>286 | 129=>304 | 317=>303 | 318=>305 | 319=>306 | 320=>307 | 337=>309 | 338=>310 | n=>n,fun | 9=>9 | 3=>3 | 75=>96 | 76=>97 | 4=>4 | 5=>5 | 167=>195 | 37=>196 | 0=>0 | 85=>197 | 2=>2 | 168=>199 | 53=>247 | 175=>248 | 46=>250 | 210=>252 | 127=>269 | 145=>275 | 143=>273 | 21=>21 | 171=>333 | 173=>336 | 212=>353 | 51=>276 | 20=>20 | 213=>354 | 232=>362 | 233=>363 | 80=>83 | n=>n,fun | 15=>0 | 16=>1 | 17=>6 | 18=>9 | 19=>10 | n=>n⟩
theorem Tryz.lays172:Go.Proofs.Lays.n172 Tryz.prog Tryz.lays172_ren:=by constructor<;>intros<;>first|kernel_rfl|(constructor<;>intros<;>first|kernel_rfl|(constructor<;>intros<;>kernel_rfl))
open Go.RowKit in
theorem Tryz.strconv_Atoi (s:ByteArray) (n:Int) (hl:s.size<=18) (h:Lib.atoi s.data.toList=some n) (w:World):
  Calls Tryz.prog 43 #[.string s] w λe w'=>e=.returned (.tuple #[.int .i64 n,.nilIface])/\∃t,w'=Lib.bytesWorld w 5 t:=Any.strconv_Atoi Tryz.lays172 s n hl h w
def Tryz.lays171_ren:Go.Shelf.Ren:=⟨fun | 171=>163 | 243=>210 | 246=>248 | 283=>283 | 284=>284 | 285=>285 | 286=>286 | 129=>304 | 317=>303 | 318=>305 | 319=>306 | 320=>307 | 337=>309 | 338=>310 | n=>n,fun | 3=>3 | 9=>9 | 2=>2 | 4=>4 | 171=>333 | 0=>0 | 53=>247 | 37=>196 | 5=>5 | 173=>336 | 212=>353 | 51=>276 | 20=>20 | 213=>354 | 46=>250 | 232=>362 | 233=>363 | n=>n,fun | 17=>6 | 18=>9 | 19=>10 | n=>n⟩
theorem Tryz.lays171:Go.Proofs.Lays.n171 Tryz.prog Tryz.lays171_ren:=by constructor<;>intros<;>first|kernel_rfl|(constructor<;>intros<;>first|kernel_rfl|(constructor<;>intros<;>kernel_rfl))
open Go.RowKit Go.Sort Go.Lib in
theorem Tryz.strconv_Itoa_small (i:Nat) (hi:i<100) (w:World):
  Calls Tryz.prog 163 #[.int .i64 i] w λe w'=>e=.returned (.string ⟨(Lib.decDigits i).toArray⟩)/\w'=w:=Any.strconv_Itoa_small Tryz.lays171 i hi w
def Tryz.laysC172_ren:Go.Shelf.Ren:=⟨fun | 172=>43 | 244=>73 | 245=>74 | 247=>118 | 279=>119 | 280=>120 | 281=>121 | 282=>122 | 287=>176 | 316=>177 | 171=>163 | 205=>178 | 321=>220 | 322=>221 | 243=>210 | 246=>248 | 283=>283 | 284=>284 | 285=>285 | 286=>286 | 129=>304 | 317=>303 | 318=>305 | 319=>306 | 320=>307 | 337=>309 | 338=>310 | n=>n,fun | 9=>9 | 3=>3 | 75=>96 | 76=>97 | 4=>4 | 5=>5 | 167=>195 | 37=>196 | 0=>0 | 85=>197 | 2=>2 | 168=>199 | 53=>247 | 175=>248 | 46=>250 | 210=>252 | 127=>269 | 145=>275 | 143=>273 | 21=>21 | 171=>333 | 173=>336 | 212=>353 | 51=>276 | 20=>20 | 213=>354 | 232=>362 | 233=>363 | 80=>83 | n=>n,fun | 15=>0 | 16=>1 | 17=>6 | 18=>9 | 19=>10 | n=>n⟩
theorem Tryz.laysC172:Go.Proofs.LaysC.n172 Tryz.prog Tryz.laysC172_ren:=by constructor<;>intros<;>first|kernel_rfl|(constructor<;>intros<;>first|kernel_rfl|(constructor<;>intros<;>kernel_rfl))
open Go.RowKit in
theorem Tryz.strconv_Atoi_err (s:ByteArray) (hl:s.size<=18) (h:Lib.atoi s.data.toList=none) (ev:Value) (w:World) (hv:w.cell? ⟨0,0,none⟩=some ev) (hev:ev=.nilIface\/∃te pe,ev=.iface te pe):
  Calls Tryz.prog 43 #[.string s] w λe w'=>∃N,e=.returned (.tuple #[.int .i64 0,.iface 199 (.pointer (some ⟨N,0,none⟩))])/\w.heap.size<=N/\w'.heap[N]?=some (.cells #[.string ⟨#[65,116,111,105]⟩,.string s,ev] 252 (0,0))/\Below w.heap.size w w':=Any.strconv_Atoi_err Tryz.laysC172 s hl h ev w hv hev
def Tryz.laysC174_ren:Go.Shelf.Ren:=⟨fun | 174=>230 | 247=>118 | 245=>74 | 287=>176 | 279=>119 | 280=>120 | 281=>121 | 282=>122 | 321=>220 | 322=>221 | 316=>177 | 171=>163 | 205=>178 | 243=>210 | 246=>248 | 283=>283 | 284=>284 | 285=>285 | 286=>286 | 129=>304 | 317=>303 | 318=>305 | 319=>306 | 320=>307 | 337=>309 | 338=>310 | n=>n,fun | 9=>9 | 3=>3 | 2=>2 | 75=>96 | 85=>197 | 4=>4 | 167=>195 | 5=>5 | 53=>247 | 175=>248 | 46=>250 | 168=>199 | 37=>196 | 0=>0 | 210=>252 | 21=>21 | 127=>269 | 145=>275 | 143=>273 | 171=>333 | 173=>336 | 212=>353 | 51=>276 | 20=>20 | 213=>354 | 232=>362 | 233=>363 | 80=>83 | n=>n,fun | 15=>0 | 16=>1 | 17=>6 | 18=>9 | 19=>10 | n=>n⟩
theorem Tryz.laysC174:Go.Proofs.LaysC.n174 Tryz.prog Tryz.laysC174_ren:=by constructor<;>intros<;>first|kernel_rfl|(constructor<;>intros<;>first|kernel_rfl|(constructor<;>intros<;>kernel_rfl))
open Go.RowKit in
theorem Tryz.strconv_ParseInt_10_at64_ok (s:ByteArray) (hmax:s.size<=9223372036854775806) (v:Int) (h:Lib.parseIntB 64 s.data.toList=.ok v) (w:World):
  Calls Tryz.prog 230 #[.string s,.int .i64 10,.int .i64 64] w λe w'=>e=.returned (.tuple #[.int .i64 v,.nilIface])/\(w'=w\/∃t,w'=Lib.bytesWorld w 5 t):=Any.strconv_ParseInt_10_at64_ok Tryz.laysC174 s hmax v h w
def Tryz.lays150_ren:Go.Shelf.Ren:=⟨fun | 150=>219 | 153=>264 | 152=>279 | 226=>293 | 227=>242 | 228=>280 | 137=>212 | 119=>300 | 224=>181 | 225=>180 | 217=>179 | 266=>222 | n=>n,fun | 9=>9 | 4=>4 | 3=>3 | 5=>5 | 21=>21 | 117=>295 | 116=>294 | 0=>0 | 46=>250 | 124=>298 | n=>n,fun | n=>n⟩
theorem Tryz.lays150:Go.Proofs.Lays.n150 Tryz.prog Tryz.lays150_ren:=by constructor<;>intros<;>first|kernel_rfl|(constructor<;>intros<;>first|kernel_rfl|(constructor<;>intros<;>kernel_rfl))
open Go.RowKit Go.Lib in
theorem Tryz.strings_ContainsAny_laid (s chars:ByteArray) (w:World) (hs:s.size<4294967281) (hcs:chars.size<4294967281) (has:∀(j:Nat) b,s.data.toList[j]?=some b->b.toNat<128) (hac:∀(j:Nat) b,chars.data.toList[j]?=some b->b.toNat<128):
  Calls Tryz.prog 219 #[.string s,.string chars] w λe w'=>e=.returned (.bool (Lib.containsAny s.data.toList chars.data.toList))/\Below w.heap.size w w':=Any.strings_ContainsAny_laid Tryz.lays150 (by kernel_rfl) s chars w hs hcs has hac
def Tryz.lays230_ren:Go.Shelf.Ren:=⟨fun | 230=>263 | 197=>281 | 118=>289 | 165=>167 | 166=>162 | 168=>290 | 270=>291 | 167=>292 | 169=>164 | 260=>301 | 240=>209 | 241=>211 | 242=>308 | 276=>247 | 277=>249 | 278=>311 | n=>n,fun | 107=>311 | 9=>9 | 72=>235 | 0=>0 | 4=>4 | 3=>3 | 21=>21 | 105=>331 | 76=>97 | 5=>5 | 75=>96 | 70=>233 | 20=>20 | 37=>196 | 127=>269 | 119=>357 | 46=>250 | 139=>360 | 138=>359 | 164=>299 | 51=>276 | 80=>83 | n=>n,fun | 3=>7 | 4=>8 | n=>n⟩
theorem Tryz.lays230:Go.Proofs.Lays.n230 Tryz.prog Tryz.lays230_ren:=by constructor<;>intros<;>first|kernel_rfl|(constructor<;>intros<;>first|kernel_rfl|(constructor<;>intros<;>kernel_rfl))
theorem Tryz.Builder_Extra_230:Builder.Extra Tryz.prog Tryz.lays230_ren:={
 sizeBuilder:=by kernel_rfl
 liesBuilder:=by kernel_rfl
 t5:=Tryz.underlying5
 a5:=Tryz.isAgg5
 z5:=Tryz.sizeOf5
 v5:=Tryz.zeroValue5
 infoByte:=by kernel_rfl
 cellsByte:=by kernel_rfl
 sizeByte:=by kernel_rfl
 neB5:=by decide }
open Go.RowKit Go.Lib in
theorem Tryz.strings_Map_runes (g:Nat) (lb:Array Value) (eg:∀args w,(callFunc g args).run Tryz.prog w=.ok (.enter g args) w) (f:Int->Int) (s:ByteArray) (w:World) (hs:s.size<35184372088832) (hf:MapAtRunes Tryz.prog g lb f w) (hnn:∀x:Nat,x<=1114111->0<=f x/\f x<=2147483647) (hT:Lib.Utf8Tabs 7 8 w):
  Calls Tryz.prog 263 #[.func (.func g) #[] lb,.string s] w λe w'=>e=.returned (.string ⟨(Lib.mapD f s.data.toList).toArray⟩)/\Below w.heap.size w w':=Any.strings_Map_runes Tryz.lays230 Tryz.Builder_Extra_230 g lb eg f s w hs hf hnn hT
def Tryz.lays162_ren:Go.Shelf.Ren:=⟨fun | 162=>215 | 232=>241 | 227=>242 | 234=>244 | 236=>246 | 228=>280 | 271=>282 | 151=>239 | 120=>302 | 197=>281 | 152=>279 | 260=>301 | 137=>212 | 119=>300 | 224=>181 | 225=>180 | 217=>179 | 266=>222 | n=>n,fun | 9=>9 | 4=>4 | 3=>3 | 5=>5 | 117=>295 | 116=>294 | 0=>0 | 124=>298 | 21=>21 | 105=>331 | 46=>250 | 119=>357 | 139=>360 | 138=>359 | n=>n,fun | 3=>7 | 4=>8 | n=>n⟩
theorem Tryz.lays162:Go.Proofs.Lays.n162 Tryz.prog Tryz.lays162_ren:=by constructor<;>intros<;>first|kernel_rfl|(constructor<;>intros<;>first|kernel_rfl|(constructor<;>intros<;>kernel_rfl))
theorem Tryz.strings_TrimRight_laid (s cutset:ByteArray) (w:World) (hs:s.size<=9223372036854775807) (hcs:cutset.size<4294967281) (hascii:∀(j:Nat) b,cutset.data.toList[j]?=some b->b.toNat<128):
  Calls Tryz.prog 215 #[.string s,.string cutset] w λe w'=>e=.returned (.string ⟨(Lib.trimRightS s.data.toList cutset.data.toList).toArray⟩)/\Go.RowKit.Below w.heap.size w w':=
 Any.strings_TrimRight_laid Tryz.lays162 (by kernel_rfl) s cutset w hs hcs hascii
def Tryz.lays166_ren:Go.Shelf.Ren:=⟨fun | 166=>162 | 240=>209 | 276=>247 | n=>n,fun | 0=>0 | 3=>3 | 4=>4 | 5=>5 | 9=>9 | 20=>20 | 37=>196 | 70=>233 | 72=>235 | 75=>96 | 80=>83 | 164=>299 | n=>n,fun | n=>n⟩
theorem Tryz.lays166:Go.Proofs.Lays.n166 Tryz.prog Tryz.lays166_ren:=by constructor<;>intros<;>first|kernel_rfl|(constructor<;>intros<;>first|kernel_rfl|(constructor<;>intros<;>kernel_rfl))
theorem Tryz.Builder_Extra_166:Builder.Extra Tryz.prog Tryz.lays166_ren:={
 sizeBuilder:=by kernel_rfl
 liesBuilder:=by kernel_rfl
 t5:=Tryz.underlying5
 a5:=Tryz.isAgg5
 z5:=Tryz.sizeOf5
 v5:=Tryz.zeroValue5
 infoByte:=by kernel_rfl
 cellsByte:=by kernel_rfl
 sizeByte:=by kernel_rfl
 neB5:=by decide }
theorem Tryz.Builder_WriteString (B b:Nat) (bs:List Value) (s:ByteArray) (w:World) (h:Lib.IsBuilder 235 5 B b bs w) (hlen:bs.length+s.size<=140737488355328) (hBw:B<=w.heap.size):
  Calls Tryz.prog 162 #[.pointer (some ⟨b,0,none⟩),.string s] w λe w'=>e=.returned (.tuple #[.int .i64 s.size,.nilIface])/\(Lib.BuilderAt 235 5 B b (.pointer (some ⟨b,0,none⟩)) (bs++Lib.strCells s) w'/\Go.RowKit.Below B w w'):=Any.Builder_WriteString Tryz.lays166 Tryz.Builder_Extra_166 B b bs s w h hlen hBw
end Go.Proofs
