/-
  DERIVED: THE SHELF's CONTRACTS AT THIS DUMP, IN PLAIN WORDS (tools/lay-plain.mjs out of 'YtadejcglcffgbabGreatDoorShelf.lean', which tools/lay-shelf.mjs wrote): THE SAME DECLARATIONS UNDER THE SAME NAMES: 'import', 'namespace', 'open', 'def', 'theorem' AND NOTHING ELSE: no command of the shelf's: FOR A HAND-IN. Each laying: the table of numbers ('.._ren') and one theorem, a field a fact of the dump's own or the kernel's comparison; each contract: ONE APPLICATION.
-/
import Derived.Shelf.Strconv.Atoi
import Derived.Shelf.LaysM
import Derived.Shelf.Strconv.Itoa3
import Derived.Shelf.LaysC
import Derived.Shelf.Strconv.AtoiErr
import Derived.Shelf.Strconv.ParseIntPublic10
import Derived.Ground.Names2Prog
import Derived.Shelf.Slices.Clone
import Derived.Test.YtadejcglcffgbabGreatDoorProg
namespace Go.Proofs
open Go.Shelf
def Tryz.lays172_ren:Go.Shelf.Ren:=⟨fun | 172=>82 | 244=>105 | 245=>106 | 247=>142 | 279=>143 | 280=>144 | 281=>145 | 282=>146 | 287=>180 | 316=>181 | 171=>183 | 205=>182 | 321=>198 | 322=>199 | 243=>200 | 246=>209 | 283=>212 | 284=>213 | 285=>214 | 286=>215 | 129=>217 | 317=>216 | 318=>218 | 319=>219 | 320=>220 | 337=>221 | 338=>222 | n=>n,fun | 9=>9 | 3=>3 | 75=>134 | 76=>135 | 4=>4 | 5=>5 | 167=>191 | 37=>192 | 0=>0 | 85=>187 | 2=>2 | 168=>193 | 53=>224 | 175=>230 | 46=>232 | 210=>234 | 127=>249 | 145=>252 | 143=>250 | 21=>21 | 171=>265 | 173=>268 | 212=>271 | 51=>262 | 20=>20 | 213=>272 | 232=>276 | 233=>277 | 80=>86 | n=>n,fun | 15=>2 | 16=>3 | 17=>8 | 18=>9 | 19=>10 | n=>n⟩
theorem Tryz.lays172:Go.Proofs.Lays.n172 Tryz.prog Tryz.lays172_ren:=by constructor<;>intros<;>first|kernel_rfl|(constructor<;>intros<;>first|kernel_rfl|(constructor<;>intros<;>kernel_rfl))
open Go.RowKit in
theorem Tryz.strconv_Atoi (s:ByteArray) (n:Int) (hl:s.size<=18) (h:Lib.atoi s.data.toList=some n) (w:World):
  Calls Tryz.prog 82 #[.string s] w λe w'=>e=.returned (.tuple #[.int .i64 n,.nilIface])/\∃t,w'=Lib.bytesWorld w 5 t:=Any.strconv_Atoi Tryz.lays172 s n hl h w
def Tryz.laysC172_ren:Go.Shelf.Ren:=⟨fun | 172=>82 | 244=>105 | 245=>106 | 247=>142 | 279=>143 | 280=>144 | 281=>145 | 282=>146 | 287=>180 | 316=>181 | 171=>183 | 205=>182 | 321=>198 | 322=>199 | 243=>200 | 246=>209 | 283=>212 | 284=>213 | 285=>214 | 286=>215 | 129=>217 | 317=>216 | 318=>218 | 319=>219 | 320=>220 | 337=>221 | 338=>222 | n=>n,fun | 9=>9 | 3=>3 | 75=>134 | 76=>135 | 4=>4 | 5=>5 | 167=>191 | 37=>192 | 0=>0 | 85=>187 | 2=>2 | 168=>193 | 53=>224 | 175=>230 | 46=>232 | 210=>234 | 127=>249 | 145=>252 | 143=>250 | 21=>21 | 171=>265 | 173=>268 | 212=>271 | 51=>262 | 20=>20 | 213=>272 | 232=>276 | 233=>277 | 80=>86 | n=>n,fun | 15=>2 | 16=>3 | 17=>8 | 18=>9 | 19=>10 | n=>n⟩
theorem Tryz.laysC172:Go.Proofs.LaysC.n172 Tryz.prog Tryz.laysC172_ren:=by constructor<;>intros<;>first|kernel_rfl|(constructor<;>intros<;>first|kernel_rfl|(constructor<;>intros<;>kernel_rfl))
open Go.RowKit in
theorem Tryz.strconv_Atoi_err (s:ByteArray) (hl:s.size<=18) (h:Lib.atoi s.data.toList=none) (ev:Value) (w:World) (hv:w.cell? ⟨2,0,none⟩=some ev) (hev:ev=.nilIface\/∃te pe,ev=.iface te pe):
  Calls Tryz.prog 82 #[.string s] w λe w'=>∃N,e=.returned (.tuple #[.int .i64 0,.iface 193 (.pointer (some ⟨N,0,none⟩))])/\w.heap.size<=N/\w'.heap[N]?=some (.cells #[.string ⟨#[65,116,111,105]⟩,.string s,ev] 234 (0,0))/\Below w.heap.size w w':=Any.strconv_Atoi_err Tryz.laysC172 s hl h ev w hv hev
def Tryz.laysC174_ren:Go.Shelf.Ren:=⟨fun | 174=>139 | 247=>142 | 245=>106 | 287=>180 | 279=>143 | 280=>144 | 281=>145 | 282=>146 | 321=>198 | 322=>199 | 316=>181 | 171=>183 | 205=>182 | 243=>200 | 246=>209 | 283=>212 | 284=>213 | 285=>214 | 286=>215 | 129=>217 | 317=>216 | 318=>218 | 319=>219 | 320=>220 | 337=>221 | 338=>222 | n=>n,fun | 9=>9 | 3=>3 | 2=>2 | 75=>134 | 85=>187 | 4=>4 | 167=>191 | 5=>5 | 53=>224 | 175=>230 | 46=>232 | 168=>193 | 37=>192 | 0=>0 | 210=>234 | 21=>21 | 127=>249 | 145=>252 | 143=>250 | 171=>265 | 173=>268 | 212=>271 | 51=>262 | 20=>20 | 213=>272 | 232=>276 | 233=>277 | 80=>86 | n=>n,fun | 15=>2 | 16=>3 | 17=>8 | 18=>9 | 19=>10 | n=>n⟩
theorem Tryz.laysC174:Go.Proofs.LaysC.n174 Tryz.prog Tryz.laysC174_ren:=by constructor<;>intros<;>first|kernel_rfl|(constructor<;>intros<;>first|kernel_rfl|(constructor<;>intros<;>kernel_rfl))
open Go.RowKit in
theorem Tryz.strconv_ParseInt_10_at64_ok (s:ByteArray) (hmax:s.size<=9223372036854775806) (v:Int) (h:Lib.parseIntB 64 s.data.toList=.ok v) (w:World):
  Calls Tryz.prog 139 #[.string s,.int .i64 10,.int .i64 64] w λe w'=>e=.returned (.tuple #[.int .i64 v,.nilIface])/\(w'=w\/∃t,w'=Lib.bytesWorld w 5 t):=Any.strconv_ParseInt_10_at64_ok Tryz.laysC174 s hmax v h w
end Go.Proofs
