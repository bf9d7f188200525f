
import Derived.Test.YtjkmipianfkncaaGreatDoorShelf
import Derived.Test.YtjkmipianfkncaaGreatDoorAbsW
set_option linter.unusedVariables false
set_option linter.unusedSimpArgs false
set_option maxRecDepth 100000
set_option linter.defProp false
namespace Go.Sh
open Go.Abs Go.Proofs Go.RowKit
def NM(s:ByteArray)(n:s.size<=18)(h:Lib.atoi s.data.toList=none)(w:World)(m:GL jG w):
  Calls Tryz.prog 112 #[.string s] w λe w'=>∃a,e=.returned (.tuple #[.int .i64 0,.iface 244 (.pointer a)])/\Below w.heap.size w w':=by
 obtain⟨L,⟨A,u,C,c3,v,r,y,t,b,o,⟨c4,l,B,x,rfl,g⟩,z,i,f,q⟩,p,_⟩:=m;have k:=p (3,.cells c4 l (0,0)) (by simp);obtain⟨d,c,j⟩:∃d c,c4[0]?=some (.iface d c):=by
  first
  | exact⟨_,_,g⟩
  | exact⟨_,_,g.1⟩
 exact(Tryz.strconv_Atoi_err s n h (.iface d c) w (by rw[bB k,j]) (.inr ⟨_,_,rfl⟩)).mono λe w' ⟨_,i,_,_,f⟩=>⟨_,i,f⟩
end Go.Sh
