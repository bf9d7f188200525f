
import Derived.Test.YtadejcglcffgbabGreatDoorShelf
import Derived.Test.YtadejcglcffgbabGreatDoorAbsW
set_option linter.unusedVariables false
set_option linter.unusedSimpArgs false
set_option maxRecDepth 100000
set_option linter.defProp false
namespace Go.Sh
open Go.Abs Go.Proofs Go.RowKit
def IV(s:ByteArray)(j:s.size<=18)(h:Lib.atoi s.data.toList=none)(w:World)(l:GL ii w):
  Calls Tryz.prog 82 #[.string s] w λe w'=>∃a,e=.returned (.tuple #[.int .i64 0,.iface 193 (.pointer a)])/\Below w.heap.size w w':=by
 obtain⟨L,⟨q,C,r,c3,x,v,t,y,b,o,⟨c4,k,A,u,rfl,g⟩,z,i,f,B⟩,p,_⟩:=l;have n:=p (2,.cells c4 k (0,0)) (by simp);obtain⟨c,d,m⟩:∃c d,c4[0]?=some (.iface c d):=by
  first
  | exact⟨_,_,g⟩
  | exact⟨_,_,g.1⟩
 exact(Tryz.strconv_Atoi_err s j h (.iface c d) w (by rw[bB n,m]) (.inr ⟨_,_,rfl⟩)).mono λe w' ⟨_,i,_,_,f⟩=>⟨_,i,f⟩
end Go.Sh
