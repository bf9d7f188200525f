
/- strconv.Atoi at texts that are no numbers: the shelf's contract, with what ErrSyntax holds.
   Conditions: none. -/
import Derived.Test.YthemneooekobkabGreatDoorShelf
import Derived.Test.YthemneooekobkabGreatDoorAbsW
set_option linter.unusedVariables false
set_option linter.unusedSimpArgs false
set_option maxRecDepth 100000
namespace Go.Sh
open Go.Abs Go.Proofs Go.RowKit
theorem QQ (s:ByteArray) (p:s.size<=18) (h:Lib.atoi s.data.toList=none) (w:World) (q:GL gY w):
  Calls Tryz.prog 95 #[.string s] w λe w'=>∃a,e=.returned (.tuple #[.int .i64 0,.iface 230 (.pointer a)])/\Below w.heap.size w w':=by
 obtain ⟨L,⟨u,D,z,A,t,v,x,B,b,o,⟨g,n,r,y,rfl,f⟩,E,j,i,C⟩,m,_⟩:=q;have k:=m (0,.cells g n (0,0)) (by simp);obtain ⟨d,c,l⟩:∃d c,g[0]?=some (.iface d c):=by
  first
  | exact ⟨_,_,f⟩
  | exact ⟨_,_,f.1⟩
 exact (Tryz.strconv_Atoi_err s p h (.iface d c) w (by rw [bv k,l]) (.inr ⟨_,_,rfl⟩)).mono λe w' ⟨_,j,_,_,i⟩=>⟨_,j,i⟩
end Go.Sh
