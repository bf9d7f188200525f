
/- strconv.Atoi at texts that are no numbers: the shelf's contract, with what ErrSyntax holds.
   Conditions: none. -/
import Derived.Test.YtaogbalpingjhaaGreatDoorShelf
import Derived.Test.YtaogbalpingjhaaGreatDoorAbsW
set_option linter.unusedVariables false
set_option linter.unusedSimpArgs false
set_option maxRecDepth 100000
namespace Go.Sh
open Go.Abs Go.Proofs Go.RowKit
theorem FC (s:ByteArray) (m:s.size<=18) (h:Lib.atoi s.data.toList=none) (w:World) (j:GL dH w):
  Calls Tryz.prog 52 #[.string s] w λe w'=>∃a,e=.returned (.tuple #[.int .i64 0,.iface 235 (.pointer a)])/\Below w.heap.size w w':=by
 obtain ⟨L,⟨D,r,z,y,q,B,A,t,b,o,⟨c4,l,u,v,rfl,f⟩,C,i,g,x⟩,n,_⟩:=j;have p:=n (2,.cells c4 l (0,0)) (by simp);obtain ⟨d,c,k⟩:∃d c,c4[0]?=some (.iface d c):=by
  first
  | exact ⟨_,_,f⟩
  | exact ⟨_,_,f.1⟩
 exact (Tryz.strconv_Atoi_err s m h (.iface d c) w (by rw [aO p,k]) (.inr ⟨_,_,rfl⟩)).mono λe w' ⟨_,i,_,_,g⟩=>⟨_,i,g⟩
end Go.Sh
