
/- strconv.Atoi at texts that are no numbers: the shelf's contract, with what ErrSyntax holds.
   Conditions: none. -/
import Derived.Test.YthemneooekobkaaGreatDoorShelf
import Derived.Test.YthemneooekobkaaGreatDoorAbsW
set_option linter.unusedVariables false
set_option linter.unusedSimpArgs false
set_option maxRecDepth 100000
namespace Go.Sh
open Go.Abs Go.Proofs Go.RowKit
theorem RF (s:ByteArray) (p:s.size<=18) (h:Lib.atoi s.data.toList=none) (w:World) (q:GL gS w):
  Calls Tryz.prog 99 #[.string s] w λe w'=>∃a,e=.returned (.tuple #[.int .i64 0,.iface 263 (.pointer a)])/\Below w.heap.size w w':=by
 obtain ⟨L,⟨x,r,E,v,z,C,t,u,b,o,⟨j,n,D,y,rfl,f⟩,A,g,i,B⟩,m,_⟩:=q;have l:=m (0,.cells j n (0,0)) (by simp);obtain ⟨d,c,k⟩:∃d c,j[0]?=some (.iface d c):=by
  first
  | exact ⟨_,_,f⟩
  | exact ⟨_,_,f.1⟩
 exact (Tryz.strconv_Atoi_err s p h (.iface d c) w (by rw [bi l,k]) (.inr ⟨_,_,rfl⟩)).mono λe w' ⟨_,g,_,_,i⟩=>⟨_,g,i⟩
end Go.Sh
