
/- strconv.Atoi at texts that are no numbers: the shelf's contract, with what ErrSyntax holds.
   Conditions: none. -/
import Derived.Test.YtfiponokimbeeaaGreatDoorShelf
import Derived.Test.YtfiponokimbeeaaGreatDoorAbsW
set_option linter.unusedVariables false
set_option linter.unusedSimpArgs false
set_option maxRecDepth 100000
namespace Go.Sh
open Go.Abs Go.Proofs Go.RowKit
theorem Nn (s:ByteArray) (k:s.size<=18) (h:Lib.atoi s.data.toList=none) (w:World) (n:GL f7 w):
  Calls Tryz.prog 63 #[.string s] w λe w'=>∃a,e=.returned (.tuple #[.int .i64 0,.iface 240 (.pointer a)])/\Below w.heap.size w w':=by
 obtain ⟨L,⟨u,x,D,C,r,v,y,B,b,o,⟨i,m,z,A,rfl,f⟩,E,g,j,t⟩,p,_⟩:=n;have l:=p (0,.cells i m (0,0)) (by simp);obtain ⟨c,d,q⟩:∃c d,i[0]?=some (.iface c d):=by
  first
  | exact ⟨_,_,f⟩
  | exact ⟨_,_,f.1⟩
 exact (Tryz.strconv_Atoi_err s k h (.iface c d) w (by rw [be l,q]) (.inr ⟨_,_,rfl⟩)).mono λe w' ⟨_,g,_,_,j⟩=>⟨_,g,j⟩
end Go.Sh
