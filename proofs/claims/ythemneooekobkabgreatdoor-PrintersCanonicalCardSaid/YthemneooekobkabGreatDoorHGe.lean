
/- strconv.Atoi at texts that are no numbers: the shelf's contract, with what ErrSyntax holds.
   Conditions: none. -/
import Derived.Test.YthemneooekobkabGreatDoorShelf
import Derived.Test.YthemneooekobkabGreatDoorAbsW
set_option linter.unusedVariables false
set_option linter.unusedSimpArgs false
set_option maxRecDepth 100000
namespace Go.Sh
open Go.Abs Go.Proofs Go.RowKit
theorem Qf (s:ByteArray) (k:s.size<=18) (h:Lib.atoi s.data.toList=none) (w:World) (l:GL ip w):
  Calls Tryz.prog 95 #[.string s] w λe w'=>∃a,e=.returned (.tuple #[.int .i64 0,.iface 230 (.pointer a)])/\Below w.heap.size w w':=by
 obtain ⟨L,⟨A,C,r,c3,v,D,t,z,b,o,⟨f,q,B,x,rfl,j⟩,y,g,i,u⟩,p,_⟩:=l;have m:=p (0,.cells f q (0,0)) (by simp);obtain ⟨d,c,n⟩:∃d c,f[0]?=some (.iface d c):=by
  first
  | exact ⟨_,_,j⟩
  | exact ⟨_,_,j.1⟩
 exact (Tryz.strconv_Atoi_err s k h (.iface d c) w (by rw [bu m,n]) (.inr ⟨_,_,rfl⟩)).mono λe w' ⟨_,g,_,_,i⟩=>⟨_,g,i⟩
end Go.Sh
