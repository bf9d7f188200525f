
/- strconv.Atoi at texts that are no numbers: the shelf's contract, with what ErrSyntax holds.
   Conditions: none. -/
import Derived.Test.YtaogbalpingjhaaGreatDoorShelf
import Derived.Test.YtaogbalpingjhaaGreatDoorAbsW
set_option linter.unusedVariables false
set_option linter.unusedSimpArgs false
set_option maxRecDepth 100000
namespace Go.Sh
open Go.Abs Go.Proofs Go.RowKit
theorem Lh (s:ByteArray) (p:s.size<=18) (h:Lib.atoi s.data.toList=none) (w:World) (l:GL fP w):
  Calls Tryz.prog 52 #[.string s] w λe w'=>∃a,e=.returned (.tuple #[.int .i64 0,.iface 235 (.pointer a)])/\Below w.heap.size w w':=by
 obtain ⟨L,⟨r,z,u,c3,D,A,v,t,b,o,⟨j,n,y,B,rfl,g⟩,x,f,i,C⟩,k,_⟩:=l;have m:=k (2,.cells j n (0,0)) (by simp);obtain ⟨d,c,q⟩:∃d c,j[0]?=some (.iface d c):=by
  first
  | exact ⟨_,_,g⟩
  | exact ⟨_,_,g.1⟩
 exact (Tryz.strconv_Atoi_err s p h (.iface d c) w (by rw [aV m,q]) (.inr ⟨_,_,rfl⟩)).mono λe w' ⟨_,f,_,_,i⟩=>⟨_,f,i⟩
end Go.Sh
