/- strconv.Atoi at texts that are no numbers: the shelf's contract, with what ErrSyntax holds.
   Conditions: none. -/
import Derived.Test.YtplhepcdmkbioaaGreatDoorShelf
import Derived.Test.YtplhepcdmkbioaaGreatDoorAbsW
import Derived.Test.YtplhepcdmkbioaaGreatDoorProg
set_option linter.unusedVariables false
set_option linter.unusedSimpArgs false
set_option maxRecDepth 100000
namespace Go.Sh
open Go.Abs Go.Proofs Go.RowKit
theorem BO (s:ByteArray) (hl:s.size<=18) (h:Lib.atoi s.data.toList=none) (w:World) (hg:GL eu w):
  Calls Tryz.prog 27 #[.string s] w λe w'=>∃a,e=.returned (.tuple #[.int .i64 0,.iface 177 (.pointer a)])/\Below w.heap.size w w':=by
 obtain ⟨L,⟨c0,c1,c2,c3,t0,t1,t2,t3,b,o,⟨c4,t4,te,pe,rfl,h4⟩,h0,h1,h2,h3⟩,hL,_⟩:=hg
 have h5:=hL (0,.cells c4 t4 (0,0)) (by simp)
 exact (Tryz.strconv_Atoi_err s hl h (.iface te pe) w (by rw [aJ h5,h4]) (.inr ⟨_,_,rfl⟩)).mono λe w' ⟨_,h1,_,_,h2⟩=>⟨_,h1,h2⟩
end Go.Sh
