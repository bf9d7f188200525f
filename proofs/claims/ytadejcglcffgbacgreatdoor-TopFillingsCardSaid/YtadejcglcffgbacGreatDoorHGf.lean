
/- strconv.FormatInt at base 10: the walk of its body, by the kit's contract of the inner function.
   Conditions: none. -/
import Derived.Test.YtadejcglcffgbacGreatDoorAbsFmt
import Derived.Test.YtadejcglcffgbacGreatDoorShelf
import Derived.Lib.AppendIntMem
import Derived.WalkKit
import Derived.BigCall
import Derived.OwnWalk
set_option linter.unusedVariables false
set_option linter.unusedSimpArgs false
set_option maxRecDepth 100000
set_option linter.defProp false
namespace Go.Sh
open Go.Abs Go.Proofs Go.RowKit
def Nn {w:World} (hg:GL dY w):Lib.TabIs Tryz.prog w "internal/strconv.uint64pow10" .u64 Lib.pow10Tab:=by
 obtain ⟨L,⟨c0,c1,c2,c3,t0,t1,t2,t3,b,o,⟨c4,t4,te,pe,rfl,h4⟩,h0,h1,h2,h3⟩,hL,_⟩:=hg;have h7:=hL (6,.cells te.2.2.2.2.1.1 te.2.2.2.2.2 (0,0)) (by simp);have hn:Tryz.prog.globalNamed "internal/strconv.uint64pow10"=some 6:=by kernel_rfl
 unfold Lib.TabIs;simp only [World.var?,hn,Option.bind_some,h7];rw [te.2.2.2.2.1.2]
def G3(n:Int)(h0:-9223372036854775808<=n)(h1:n<=9223372036854775807)(w:World)(a:GL dY w):
  Calls Tryz.prog 80 #[.int .i64 n,.int .i64 10] w λe w'=>e=.returned (.string ⟨(Lib.itoa n).toArray⟩)/\Below w.heap.size w w':=by
 go_enter Tryz.func80,Tryz.ntmps80
 go_wp2_with (go_at_call 127;refine(Tryz.internal_strconv_FormatInt_10 n h0 h1 _ (Nn a)).mono ?_)
 rintro e w' ⟨rfl,k,os,rfl⟩
 go_wp2
 go_ret
 exact⟨rfl,Lib.below_grow _ _ (aI _) _ _⟩
end Go.Sh
