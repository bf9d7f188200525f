
import Derived.Test.YtadejcglcffgbabGreatDoorAbsClone
import Derived.Test.YtadejcglcffgbabGreatDoorProg
import Derived.WalkKit
import Derived.BigCall
import Derived.OwnWalk
import Derived.Lib.Walk
import Derived.Lib.SliceRun
set_option linter.unusedVariables false
set_option linter.unusedSimpArgs false
set_option maxRecDepth 100000
set_option linter.defProp false
namespace Go.Sh
open Go.Abs Go.Proofs Go.RowKit Go.Lib
def ya(w:World)(a:Option Addr)(n c b d:Nat):(binOp .eql 33 (.slice a n c) (.slice none b d)).run Tryz.prog w=.ok (.bool a.isNone) w:=
 Lib.run_eql_slice_nil w _ _ a n c b d (show Tryz.prog.underlying 33=some (.slice 50)by kernel_rfl)
def GB(w:World):Calls Tryz.prog 31 #[.slice none 0 0] w λe w'=>e=.returned (.slice none 0 0)/\w'=w:=by
 have q:=ya
 go_enter Tryz.func31,Tryz.ntmps31
 go_wp2
 go_ret
 exact⟨rfl,rfl⟩
def M3:Value:=.agg #[.bool false,.bool false,.string ⟨#[]⟩,.int .i64 0,.int .i64 0,.string ⟨#[]⟩,.string ⟨#[]⟩,.int .u8 0,.int .u8 0,.int .u8 0,.bool false,.bool false,.bool false,.string ⟨#[]⟩,.int .i64 0,.int .i64 0,.string ⟨#[]⟩,.string ⟨#[]⟩,.int .u8 0,.int .u8 0,.int .u8 0]
set_option maxHeartbeats 2000000 in
def DG(a:Addr)(c:Nat)(w:World):Calls Tryz.prog 31 #[.slice (some a) 0 c] w λe w'=>∃f,e=.returned f/\w'.ownsRow w.heap.size 50 21 f 0 []/\Below w.heap.size w w':=by
 have q:=ya;have h:Tryz.prog.underlying 33=some (.slice 50):=by kernel_rfl
 obtain⟨o,hi,g,l,i⟩:=info_parts (P:=Tryz.prog) (e:=50) (z:=M3) (size:=21) (bytes:=168) (by kernel_rfl)
 go_enter Tryz.func31,Tryz.ntmps31
 go_wp2_with (at_builtin;refine wpList_append_own _ rfl _ _ 33 rfl w.heap.size 50 o M3 21 168 h hi g l i rfl (by decide) _ _ _ rfl (World.ownsRow_made w #[] 0 (aV _) (oL _) rfl) a 0 c [] rfl rfl (by intro j u r;simp at r) (by intro u p;cases p) (by unfold maxLen;omega) (by omega) (by simp) ?_)
 intro f s d b m
 go_wp2
 go_ret
 refine⟨f,rfl,by simpa using d,?_⟩;exact((Below.refl _ w).alloc (aV _) _).grown b (by simp) (by intro k n;simp[Value.ownBlock]at n;omega)
def DC(a:Option Addr)(c:Nat)(w:World)(h:a=none->c=0):
  Calls Tryz.prog 31 #[.slice a 0 c] w λex w'=>∃b,ex=.returned b/\w'.ownsRow w.heap.size 50 21 b 0 []/\Below w.heap.size w w':=by
 cases a with
 | none=>
  obtain rfl:=h rfl;exact(GB w).mono λe w' ⟨f,d⟩=>⟨_,f,⟨rfl,.inl ⟨rfl,rfl⟩⟩,d▸Below.refl _ _⟩
 | some a=>exact DG a c w
end Go.Sh
