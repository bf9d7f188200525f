
/- strconv.Atoi at texts that are no numbers: the shelf's contract, with what ErrSyntax holds.
   Conditions: none. -/
import Derived.Test.YtfiponokimbeeaaGreatDoorShelf
import Derived.Test.YtfiponokimbeeaaGreatDoorAbsW
set_option linter.unusedVariables false
set_option linter.unusedSimpArgs false
set_option maxRecDepth 100000
namespace Go.Sh
open Go.Abs Go.Proofs Go.RowKit
theorem NP (s:ByteArray) (n:s.size<=18) (h:Lib.atoi s.data.toList=none) (w:World) (q:GL gf w):
  Calls Tryz.prog 63 #[.string s] w λe w'=>∃a,e=.returned (.tuple #[.int .i64 0,.iface 240 (.pointer a)])/\Below w.heap.size w w':=by
 obtain ⟨L,⟨B,x,D,E,z,t,v,u,b,o,⟨g,p,y,A,rfl,j⟩,C,i,f,r⟩,l,_⟩:=q;have k:=l (0,.cells g p (0,0)) (by simp);obtain ⟨d,c,m⟩:∃d c,g[0]?=some (.iface d c):=by
  first
  | exact ⟨_,_,j⟩
  | exact ⟨_,_,j.1⟩
 exact (Tryz.strconv_Atoi_err s n h (.iface d c) w (by rw [bf k,m]) (.inr ⟨_,_,rfl⟩)).mono λe w' ⟨_,i,_,_,f⟩=>⟨_,i,f⟩
end Go.Sh
