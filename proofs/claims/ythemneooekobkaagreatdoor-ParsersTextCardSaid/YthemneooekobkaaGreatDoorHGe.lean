
/- strconv.Atoi at texts that are no numbers: the shelf's contract, with what ErrSyntax holds.
   Conditions: none. -/
import Derived.Test.YthemneooekobkaaGreatDoorShelf
import Derived.Test.YthemneooekobkaaGreatDoorAbsW
set_option linter.unusedVariables false
set_option linter.unusedSimpArgs false
set_option maxRecDepth 100000
namespace Go.Sh
open Go.Abs Go.Proofs Go.RowKit
theorem QV (s:ByteArray) (l:s.size<=18) (h:Lib.atoi s.data.toList=none) (w:World) (n:GL jI w):
  Calls Tryz.prog 99 #[.string s] w λe w'=>∃a,e=.returned (.tuple #[.int .i64 0,.iface 263 (.pointer a)])/\Below w.heap.size w w':=by
 obtain ⟨L,⟨x,q,B,u,t,C,D,y,b,o,⟨c4,p,z,r,rfl,g⟩,A,f,i,v⟩,m,_⟩:=n;have k:=m (0,.cells c4 p (0,0)) (by simp);obtain ⟨c,d,j⟩:∃c d,c4[0]?=some (.iface c d):=by
  first
  | exact ⟨_,_,g⟩
  | exact ⟨_,_,g.1⟩
 exact (Tryz.strconv_Atoi_err s l h (.iface c d) w (by rw [bA k,j]) (.inr ⟨_,_,rfl⟩)).mono λe w' ⟨_,f,_,_,i⟩=>⟨_,f,i⟩
end Go.Sh
