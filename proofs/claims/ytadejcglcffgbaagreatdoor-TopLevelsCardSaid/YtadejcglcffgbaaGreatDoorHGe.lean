
import Derived.Test.YtadejcglcffgbaaGreatDoorShelf
import Derived.Test.YtadejcglcffgbaaGreatDoorAbsW
set_option linter.unusedVariables false
set_option linter.unusedSimpArgs false
set_option maxRecDepth 100000
set_option linter.defProp false
namespace Go.Sh
open Go.Abs Go.Proofs Go.RowKit
def QF(s:ByteArray)(p:s.size<=18)(h:Lib.atoi s.data.toList=none)(w:World)(k:GL gQ w):
  Calls Tryz.prog 65 #[.string s] w λe w'=>∃a,e=.returned (.tuple #[.int .i64 0,.iface 218 (.pointer a)])/\Below w.heap.size w w':=by
 obtain⟨L,⟨v,C,t,c3,u,y,x,z,b,o,⟨c4,n,A,r,rfl,i⟩,q,g,f,B⟩,m,_⟩:=k;have l:=m (0,.cells c4 n (0,0)) (by simp);obtain⟨c,d,j⟩:∃c d,c4[0]?=some (.iface c d):=by
  first
  | exact⟨_,_,i⟩
  | exact⟨_,_,i.1⟩
 exact(Tryz.strconv_Atoi_err s p h (.iface c d) w (by rw[bg l,j]) (.inr ⟨_,_,rfl⟩)).mono λe w' ⟨_,g,_,_,f⟩=>⟨_,g,f⟩
end Go.Sh
