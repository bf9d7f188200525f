
/- strconv.Atoi at texts that are no numbers: the shelf's contract, with what ErrSyntax holds.
   Conditions: none. -/
import Derived.Test.YtfiponokimbeeaaGreatDoorShelf
import Derived.Test.YtfiponokimbeeaaGreatDoorAbsW
set_option linter.unusedVariables false
set_option linter.unusedSimpArgs false
set_option maxRecDepth 100000
namespace Go.Sh
open Go.Abs Go.Proofs Go.RowKit
theorem Qj (s:ByteArray) (n:s.size<=18) (h:Lib.atoi s.data.toList=none) (w:World) (p:GL ie w):
  Calls Tryz.prog 63 #[.string s] w λe w'=>∃a,e=.returned (.tuple #[.int .i64 0,.iface 240 (.pointer a)])/\Below w.heap.size w w':=by
 obtain ⟨L,⟨r,u,A,C,x,q,t,v,b,o,⟨c4,l,B,y,rfl,i⟩,D,f,g,z⟩,j,_⟩:=p;have k:=j (0,.cells c4 l (0,0)) (by simp);obtain ⟨d,c,m⟩:∃d c,c4[0]?=some (.iface d c):=by
  first
  | exact ⟨_,_,i⟩
  | exact ⟨_,_,i.1⟩
 exact (Tryz.strconv_Atoi_err s n h (.iface d c) w (by rw [bp k,m]) (.inr ⟨_,_,rfl⟩)).mono λe w' ⟨_,f,_,_,g⟩=>⟨_,f,g⟩
end Go.Sh
