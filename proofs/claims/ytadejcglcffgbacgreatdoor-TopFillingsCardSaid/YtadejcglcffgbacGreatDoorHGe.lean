
import Derived.Test.YtadejcglcffgbacGreatDoorShelf
import Derived.Test.YtadejcglcffgbacGreatDoorAbsW
set_option linter.unusedVariables false
set_option linter.unusedSimpArgs false
set_option maxRecDepth 100000
set_option linter.defProp false
namespace Go.Sh
open Go.Abs Go.Proofs Go.RowKit
def HW(s:ByteArray)(m:s.size<=18)(h:Lib.atoi s.data.toList=none)(w:World)(j:GL dY w):
  Calls Tryz.prog 66 #[.string s] w λe w'=>∃a,e=.returned (.tuple #[.int .i64 0,.iface 216 (.pointer a)])/\Below w.heap.size w w':=by
 obtain⟨L,⟨y,u,r,c3,n,t,z,q,b,o,⟨c4,g,x,p,rfl,f⟩,h0,h1,h2,v⟩,i,_⟩:=j;have l:=i (2,.cells c4 g (0,0)) (by simp);obtain⟨c,d,k⟩:∃c d,c4[0]?=some (.iface c d):=by
  first
  | exact⟨_,_,f⟩
  | exact⟨_,_,f.1⟩
 exact(Tryz.strconv_Atoi_err s m h (.iface c d) w (by rw[aN l,k]) (.inr ⟨_,_,rfl⟩)).mono λe w' ⟨_,h1,_,_,h2⟩=>⟨_,h1,h2⟩
end Go.Sh
