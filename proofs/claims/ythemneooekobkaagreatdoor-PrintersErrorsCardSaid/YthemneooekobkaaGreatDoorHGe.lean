
/- strconv.Atoi at texts that are no numbers: the shelf's contract, with what ErrSyntax holds.
   Conditions: none. -/
import Derived.Test.YthemneooekobkaaGreatDoorShelf
import Derived.Test.YthemneooekobkaaGreatDoorAbsW
set_option linter.unusedVariables false
set_option linter.unusedSimpArgs false
set_option maxRecDepth 100000
namespace Go.Sh
open Go.Abs Go.Proofs Go.RowKit
theorem Ll (s:ByteArray) (k:s.size<=18) (h:Lib.atoi s.data.toList=none) (w:World) (l:GL fm w):
  Calls Tryz.prog 99 #[.string s] w λe w'=>∃a,e=.returned (.tuple #[.int .i64 0,.iface 263 (.pointer a)])/\Below w.heap.size w w':=by
 obtain ⟨L,⟨y,x,C,B,E,r,u,z,b,o,⟨i,m,A,v,rfl,f⟩,D,j,g,t⟩,p,_⟩:=l;have q:=p (0,.cells i m (0,0)) (by simp);obtain ⟨d,c,n⟩:∃d c,i[0]?=some (.iface d c):=by
  first
  | exact ⟨_,_,f⟩
  | exact ⟨_,_,f.1⟩
 exact (Tryz.strconv_Atoi_err s k h (.iface d c) w (by rw [aX q,n]) (.inr ⟨_,_,rfl⟩)).mono λe w' ⟨_,j,_,_,g⟩=>⟨_,j,g⟩
end Go.Sh
