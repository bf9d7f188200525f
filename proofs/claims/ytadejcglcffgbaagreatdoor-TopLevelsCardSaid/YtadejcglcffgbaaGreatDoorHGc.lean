
import Derived.Test.YtadejcglcffgbaaGreatDoorAbsClone
import Derived.Test.YtadejcglcffgbaaGreatDoorProg
import Derived.WalkKit
import Derived.BigCall
import Derived.OwnWalk
import Derived.Lib.Walk
import Derived.Lib.SliceRun
set_option linter.unusedVariables false
set_option linter.unusedSimpArgs false
set_option maxRecDepth 100000
set_option linter.defProp false
namespace Go.Sh
open Go.Abs Go.Proofs Go.RowKit Go.Lib
def D2(w:World)(a:Option Addr)(n c b d:Nat):(binOp .eql 33 (.slice a n c) (.slice none b d)).run Tryz.prog w=.ok (.bool a.isNone) w:=
 Lib.run_eql_slice_nil w _ _ a n c b d (show Tryz.prog.underlying 33=some (.slice 67)by kernel_rfl)
def K5(w:World):Calls Tryz.prog 25 #[.slice none 0 0] w λe w'=>e=.returned (.slice none 0 0)/\w'=w:=by
 have q:=D2
 go_enter Tryz.func25,Tryz.ntmps25
 go_wp2
 go_ret
 exact⟨rfl,rfl⟩
def Wa:Value:=.agg #[.bool false,.bool false,.string ⟨#[]⟩,.int .i64 0,.int .i64 0,.string ⟨#[]⟩,.string ⟨#[]⟩,.int .u8 0,.int .u8 0,.int .u8 0,.bool false,.bool false,.bool false,.string ⟨#[]⟩,.int .i64 0,.int .i64 0,.string ⟨#[]⟩,.string ⟨#[]⟩,.int .u8 0,.int .u8 0,.int .u8 0]
set_option maxHeartbeats 2000000 in
def Kr(a:Addr)(c:Nat)(w:World):Calls Tryz.prog 25 #[.slice (some a) 0 c] w λe w'=>∃f,e=.returned f/\w'.ownsRow w.heap.size 67 21 f 0 []/\Below w.heap.size w w':=by
 have q:=D2;have h:Tryz.prog.underlying 33=some (.slice 67):=by kernel_rfl
 obtain⟨p,hi,g,l,i⟩:=info_parts (P:=Tryz.prog) (e:=67) (z:=Wa) (size:=21) (bytes:=168) (by kernel_rfl)
 go_enter Tryz.func25,Tryz.ntmps25
 go_wp2_with (at_builtin;refine wpList_append_own _ rfl _ _ 33 rfl w.heap.size 67 p Wa 21 168 h hi g l i rfl (by decide) _ _ _ rfl (World.ownsRow_made w #[] 0 (aU _) (jr _) rfl) a 0 c [] rfl rfl (by intro j u n;simp at n) (by intro u r;cases r) (by unfold maxLen;omega) (by omega) (by simp) ?_)
 intro f s d b m
 go_wp2
 go_ret
 refine⟨f,rfl,by simpa using d,?_⟩;exact((Below.refl _ w).alloc (aU _) _).grown b (by simp) (by intro k o;simp[Value.ownBlock]at o;omega)
def JC(a:Option Addr)(c:Nat)(w:World)(h:a=none->c=0):
  Calls Tryz.prog 25 #[.slice a 0 c] w λex w'=>∃b,ex=.returned b/\w'.ownsRow w.heap.size 67 21 b 0 []/\Below w.heap.size w w':=by
 cases a with
 | none=>
  obtain rfl:=h rfl;exact(K5 w).mono λe w' ⟨f,d⟩=>⟨_,f,⟨rfl,.inl ⟨rfl,rfl⟩⟩,d▸Below.refl _ _⟩
 | some a=>exact Kr a c w
end Go.Sh
