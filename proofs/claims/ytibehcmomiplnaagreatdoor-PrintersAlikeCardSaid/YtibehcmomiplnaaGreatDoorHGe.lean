
import Derived.Test.YtibehcmomiplnaaGreatDoorShelf
import Derived.Test.YtibehcmomiplnaaGreatDoorAbsW
set_option linter.unusedVariables false
set_option linter.unusedSimpArgs false
set_option maxRecDepth 100000
set_option linter.defProp false
namespace Go.Sh
open Go.Abs Go.Proofs Go.RowKit
def Qw(s:ByteArray)(n:s.size<=18)(h:Lib.atoi s.data.toList=none)(w:World)(m:GL gX w):
  Calls Tryz.prog 148 #[.string s] w λe w'=>∃a,e=.returned (.tuple #[.int .i64 0,.iface 273 (.pointer a)])/\Below w.heap.size w w':=by
 obtain⟨L,⟨x,B,u,c3,z,C,v,r,b,o,⟨c4,j,A,q,rfl,g⟩,t,f,i,y⟩,p,_⟩:=m;have k:=p (2,.cells c4 j (0,0)) (by simp);obtain⟨c,d,l⟩:∃c d,c4[0]?=some (.iface c d):=by
  first
  | exact⟨_,_,g⟩
  | exact⟨_,_,g.1⟩
 exact(Tryz.strconv_Atoi_err s n h (.iface c d) w (by rw[bh k,l]) (.inr ⟨_,_,rfl⟩)).mono λe w' ⟨_,f,_,_,i⟩=>⟨_,f,i⟩
end Go.Sh
