
/- strconv.Atoi at texts that are no numbers: the shelf's contract, with what ErrSyntax holds.
   Conditions: none. -/
import Derived.Test.YthemneooekobkaaGreatDoorShelf
import Derived.Test.YthemneooekobkaaGreatDoorAbsW
set_option linter.unusedVariables false
set_option linter.unusedSimpArgs false
set_option maxRecDepth 100000
namespace Go.Sh
open Go.Abs Go.Proofs Go.RowKit
theorem Ln (s:ByteArray) (n:s.size<=18) (h:Lib.atoi s.data.toList=none) (w:World) (q:GL iM w):
  Calls Tryz.prog 99 #[.string s] w λe w'=>∃a,e=.returned (.tuple #[.int .i64 0,.iface 263 (.pointer a)])/\Below w.heap.size w w':=by
 obtain ⟨L,⟨A,C,u,c3,v,t,z,r,b,o,⟨i,k,D,y,rfl,g⟩,B,f,j,x⟩,p,_⟩:=q;have l:=p (0,.cells i k (0,0)) (by simp);obtain ⟨d,c,m⟩:∃d c,i[0]?=some (.iface d c):=by
  first
  | exact ⟨_,_,g⟩
  | exact ⟨_,_,g.1⟩
 exact (Tryz.strconv_Atoi_err s n h (.iface d c) w (by rw [bz l,m]) (.inr ⟨_,_,rfl⟩)).mono λe w' ⟨_,f,_,_,j⟩=>⟨_,f,j⟩
end Go.Sh
