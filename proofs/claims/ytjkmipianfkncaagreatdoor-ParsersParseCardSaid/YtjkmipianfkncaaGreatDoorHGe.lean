
import Derived.Test.YtjkmipianfkncaaGreatDoorShelf
import Derived.Test.YtjkmipianfkncaaGreatDoorAbsW
set_option linter.unusedVariables false
set_option linter.unusedSimpArgs false
set_option maxRecDepth 100000
set_option linter.defProp false
namespace Go.Sh
open Go.Abs Go.Proofs Go.RowKit
def NW(s:ByteArray)(m:s.size<=18)(h:Lib.atoi s.data.toList=none)(w:World)(n:GL jo w):
  Calls Tryz.prog 112 #[.string s] w λe w'=>∃a,e=.returned (.tuple #[.int .i64 0,.iface 244 (.pointer a)])/\Below w.heap.size w w':=by
 obtain⟨L,⟨x,t,y,c3,A,u,B,D,b,o,⟨g,q,C,r,rfl,j⟩,v,f,i,z⟩,k,_⟩:=n;have l:=k (3,.cells g q (0,0)) (by simp);obtain⟨c,d,p⟩:∃c d,g[0]?=some (.iface c d):=by
  first
  | exact⟨_,_,j⟩
  | exact⟨_,_,j.1⟩
 exact(Tryz.strconv_Atoi_err s m h (.iface c d) w (by rw[bC l,p]) (.inr ⟨_,_,rfl⟩)).mono λe w' ⟨_,f,_,_,i⟩=>⟨_,f,i⟩
end Go.Sh
