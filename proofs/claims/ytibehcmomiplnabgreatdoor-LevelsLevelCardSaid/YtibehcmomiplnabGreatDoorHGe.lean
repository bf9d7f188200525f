
import Derived.Test.YtibehcmomiplnabGreatDoorShelf
import Derived.Test.YtibehcmomiplnabGreatDoorAbsW
set_option linter.unusedSimpArgs false
set_option linter.unusedVariables false
set_option linter.defProp false
set_option maxRecDepth 100000
namespace Go.Sh
open Go.Abs Go.Proofs Go.RowKit
def TM(s:ByteArray)(j:s.size<=18)(h:Lib.atoi s.data.toList=none)(w:World)(n:GL iI w):
  Calls Tryz.prog 43 #[.string s] w λe w'=>∃a,e=.returned (.tuple #[.int .i64 0,.iface 199 (.pointer a)])/\Below w.heap.size w w':=by
 obtain⟨L,⟨A,u,r,c3,v,y,C,x,b,o,⟨c4,m,B,t,rfl,f⟩,z,i,g,q⟩,l,_⟩:=n;have p:=l (0,.cells c4 m (0,0)) (by simp);obtain⟨d,c,k⟩:∃d c,c4[0]?=some (.iface d c):=by
  first
  | exact⟨_,_,f⟩
  | exact⟨_,_,f.1⟩
 exact(Tryz.strconv_Atoi_err s j h (.iface d c) w (by rw[bB p,k]) (.inr ⟨_,_,rfl⟩)).mono λe w' ⟨_,i,_,_,g⟩=>⟨_,i,g⟩
end Go.Sh
