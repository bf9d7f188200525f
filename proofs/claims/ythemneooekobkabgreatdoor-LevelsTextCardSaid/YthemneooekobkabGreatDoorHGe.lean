
/- strconv.Atoi at texts that are no numbers: the shelf's contract, with what ErrSyntax holds.
   Conditions: none. -/
import Derived.Test.YthemneooekobkabGreatDoorShelf
import Derived.Test.YthemneooekobkabGreatDoorAbsW
set_option linter.unusedVariables false
set_option linter.unusedSimpArgs false
set_option maxRecDepth 100000
namespace Go.Sh
open Go.Abs Go.Proofs Go.RowKit
theorem Pl (s:ByteArray) (n:s.size<=18) (h:Lib.atoi s.data.toList=none) (w:World) (l:GL ie w):
  Calls Tryz.prog 95 #[.string s] w λe w'=>∃a,e=.returned (.tuple #[.int .i64 0,.iface 230 (.pointer a)])/\Below w.heap.size w w':=by
 obtain ⟨L,⟨y,D,z,v,x,C,t,r,b,o,⟨c4,j,u,A,rfl,g⟩,B,f,i,q⟩,p,_⟩:=l;have m:=p (0,.cells c4 j (0,0)) (by simp);obtain ⟨c,d,k⟩:∃c d,c4[0]?=some (.iface c d):=by
  first
  | exact ⟨_,_,g⟩
  | exact ⟨_,_,g.1⟩
 exact (Tryz.strconv_Atoi_err s n h (.iface c d) w (by rw [bw m,k]) (.inr ⟨_,_,rfl⟩)).mono λe w' ⟨_,f,_,_,i⟩=>⟨_,f,i⟩
end Go.Sh
