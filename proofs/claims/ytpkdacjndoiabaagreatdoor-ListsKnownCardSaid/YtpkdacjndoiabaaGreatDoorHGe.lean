/- strconv.Atoi at texts that are no numbers: the shelf's contract, with what ErrSyntax holds.
   Conditions: none. -/
import Derived.Test.YtpkdacjndoiabaaGreatDoorShelf
import Derived.Test.YtpkdacjndoiabaaGreatDoorAbsW
set_option linter.unusedVariables false
set_option linter.unusedSimpArgs false
set_option maxRecDepth 100000
namespace Go.Sh
open Go.Abs Go.Proofs Go.RowKit
theorem N9 (s:ByteArray) (hl:s.size<=18) (h:Lib.atoi s.data.toList=none) (w:World) (hg:GL iH w):
  Calls Tryz.prog 158 #[.string s] w λe w'=>∃a,e=.returned (.tuple #[.int .i64 0,.iface 271 (.pointer a)])/\Below w.heap.size w w':=by
 obtain ⟨L,⟨c0,c1,c2,c3,t0,t1,t2,t3,b,o,⟨c4,t4,te,pe,rfl,h4⟩,h0,h1,h2,h3⟩,hL,_⟩:=hg
 have h5:=hL (3,.cells c4 t4 (0,0)) (by simp)
 obtain ⟨ty,pv,h6⟩:∃ty pv,c4[0]?=some (.iface ty pv):=by
  first
  | exact ⟨_,_,h4⟩
  | exact ⟨_,_,h4.1⟩
 exact (Tryz.strconv_Atoi_err s hl h (.iface ty pv) w (by rw [bH h5,h6]) (.inr ⟨_,_,rfl⟩)).mono λe w' ⟨_,h1,_,_,h2⟩=>⟨_,h1,h2⟩
end Go.Sh
