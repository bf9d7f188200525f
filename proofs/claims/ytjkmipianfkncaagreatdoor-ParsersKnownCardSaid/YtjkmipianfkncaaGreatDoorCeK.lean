import Derived.Test.YtjkmipianfkncaaGreatDoorAbsPat
import Derived.Test.YtjkmipianfkncaaGreatDoorHGa
import Derived.Test.YtjkmipianfkncaaGreatDoorHGb
import Derived.Test.YtjkmipianfkncaaGreatDoorHGe
set_option linter.unusedVariables false
set_option linter.unusedSimpArgs false
set_option maxRecDepth 100000
set_option maxHeartbeats 4000000
namespace Go.Sh
open Go.Abs Go.Proofs
noncomputable section
abbrev q33:List PV:=[.s,.i .i64]
abbrev q84:List PB:=[.cells q33]
abbrev q52:List (Nat×PB):=[(0,.cells q33)]
abbrev q83:List (Nat×PV):=[(4,.i .i64)]
abbrev q116:List PX:=[⟨.ret,⟨q83,[],1,1,1,1⟩⟩,⟨.exit 0,⟨[],[],1,1,1,1⟩⟩]
abbrev q106:List (Nat×PB):=[(1,.cells q33)]
abbrev q41:List PV:=[.b,.b,.s,.i .i64,.i .i64]
abbrev q119:List PV:=[.p 0 0,.p 1 0]
abbrev q19:List PV:=[.b,.b,.s,.i .i64,.i .i64,.s,.s,.i .u8,.i .u8,.i .u8]
abbrev q117:List PX:=[⟨.ret,⟨q83,[],1,0,0,0⟩⟩,⟨.exit 0,⟨[],[],1,0,0,0⟩⟩]
abbrev q95:List PB:=[.cells [.fn 128 [.p 1 0]],.cells [.fn 1000127 [.p 3 0]],.cells q19,.cells q33]
abbrev q91:List (Nat×PB):=[(2,.cells q19),(3,.cells q33)]
abbrev q87:List PV:=[.ag q19]
abbrev q114:List (Nat×PV):=[(0,.s),(7,.s),(8,.i .i64),(9,.i .i64),(12,.i .i64)]
abbrev q115:PSt:=⟨q83,[],0,0,0,0⟩
abbrev q94:PSt:=⟨[],[],0,0,0,0⟩
abbrev q63:List PV:=[.i .i8,.i .i64,.i .i8,.i .i64]
abbrev q123:PSt:=⟨[(0,.s),(1,.i .i64),(5,.i .i64)],[],0,0,0,0⟩
abbrev q75:List (Nat×PB):=[(0,.rows [.i .i64])]
abbrev q38:List PV:=[.b,.b,.s,.i .i64,.i .i64,.s,.s,.i .u8,.i .u8,.i .u8,.ws 0,.ws 1]
abbrev q92:List PB:=[.rows [.i .i64]]
abbrev q101:PSt:=⟨[(2,.i .i64)],[],1,0,0,0⟩
abbrev q70:PSt:=⟨[(0,.s),(1,.i .i64),(2,.b),(8,.i .u8),(9,.i .u8),(10,.p 0 0),(11,.p 1 0),(12,.i .i64)],[(0,.ints .u8 18),(1,.ints .u8 18)],2,0,0,0⟩
abbrev q109:List PB:=[.rows [.i .i64],.rows [.i .i64]]
abbrev q67:List (Nat×PB):=[(0,.rows [.i .i64]),(1,.rows [.i .i64]),(2,.cells q38),(3,.cells [.i .i64,.i .i64,.i .i64]),(4,.cells [.b]),(5,.cells [.ik .i64 0,.ik .i64 0,.ik .i64 0])]
abbrev q15:List (Nat×PB):=[(0,.rows [.i .i64]),(1,.rows [.i .i64]),(2,.cells q38),(3,.cells [.i .i64,.i .i64,.i .i64]),(4,.cells [.b]),(5,.cells [.i .i64,.i .i64,.i .i64]),(62,.rows [.i .i64]),(63,.rows [.i .i64])]
abbrev q18:List (Nat×PB):=[(0,.rows [.i .i64]),(1,.rows [.i .i64]),(2,.cells q38),(3,.cells [.i .i64,.i .i64,.i .i64]),(4,.cells [.b]),(5,.cells [.i .i64,.i .i64,.i .i64])]
abbrev q58:PSt:=⟨[(3,.p 2 0),(4,.p 3 0),(5,.p 4 0),(6,.p 5 0),(8,.i .i64),(9,.ws 62),(10,.ws 63),(11,.fn 108 [.p 4 0]),(12,.i .i64),(15,.i .i64),(16,.b),(17,.i .i64),(53,.ws 62),(54,.i .i64),(55,.i .i64)],q15,64,2,2,2⟩
abbrev q59:PSt:=⟨[(3,.p 2 0),(4,.p 3 0),(5,.p 4 0),(6,.p 5 0),(8,.i .i64),(9,.ws 0),(10,.ws 1),(11,.fn 108 [.p 4 0]),(12,.i .i64),(15,.i .i64),(16,.b),(17,.i .i64),(53,.ws 0),(54,.i .i64),(55,.i .i64)],q18,62,2,2,2⟩
abbrev q79:List (Nat×PV):=[(6,.p 5 0),(7,.b)]
abbrev q47:List (Nat×PB):=[(5,.cells [.i .i64,.i .i64,.i .i64])]
abbrev q120:PSt:=⟨q79,q47,64,2,2,2⟩
abbrev q37:PSt:=⟨[(3,.p 2 0),(4,.p 3 0),(5,.p 4 0),(6,.p 5 0),(8,.i .i64),(9,.ws 62),(10,.ws 63),(11,.fn 108 [.p 4 0]),(12,.i .i64),(53,.ws 62),(54,.i .i64),(55,.i .i64)],q15,64,2,2,2⟩
abbrev q121:PSt:=⟨q79,q47,62,2,2,2⟩
abbrev q39:PSt:=⟨[(3,.p 2 0),(4,.p 3 0),(5,.p 4 0),(6,.p 5 0),(8,.i .i64),(9,.ws 0),(10,.ws 1),(11,.fn 108 [.p 4 0]),(12,.i .i64),(53,.ws 0),(54,.i .i64),(55,.i .i64)],q18,62,2,2,2⟩
abbrev q11:List Lf:=[.bo,.bo,.s,.i .i64,.i .i64,.s,.s,.i .u8,.i .u8,.i .u8,.bo,.bo,.bo,.s,.i .i64,.i .i64,.s,.s,.i .u8,.i .u8,.i .u8]
abbrev q113:List PB:=[.rows q11]
abbrev q25:List PV:=[.i .u8,.bd,.b,.s,.i .i64,.i .i64,.s,.s,.i .u8,.i .u8,.i .u8,.i .u8,.bd,.b,.s,.i .i64,.i .i64,.s,.s,.i .u8,.i .u8,.i .u8,.i .u8,.bd,.b,.s,.i .i64,.i .i64,.s,.s,.i .u8,.i .u8,.i .u8,.rs 21 0 0 .q (some .q),.b,.b]
abbrev q48:List PV:=[.i .u8,.b,.b,.s,.i .i64,.i .i64,.s,.s,.i .u8,.i .u8,.i .u8]
abbrev q24:List PV:=[.bd,.b,.s,.i .i64,.i .i64,.s,.s,.i .u8,.i .u8,.i .u8,.b,.bd,.b,.s,.i .i64,.i .i64,.s,.s,.i .u8,.i .u8,.i .u8]
abbrev q34:List PV:=[.bd,.b,.s,.i .i64,.i .i64,.s,.s,.i .u8,.i .u8,.i .u8]
abbrev q55:List PV:=[.i .u8,.bd,.b,.s,.i .i64,.i .i64,.s,.s,.i .u8,.i .u8,.i .u8,.i .u8,.bd,.b,.s,.i .i64,.i .i64,.s,.s,.i .u8,.i .u8,.i .u8,.i .u8,.bd,.b,.s,.i .i64,.i .i64,.s,.s,.i .u8,.i .u8,.i .u8,.rs 21 2 0 .q (some .q),.b,.b]
abbrev q99:List PX:=[⟨.ret,⟨[(2,.i .i64),(3,.i .i64)],[],1,1,1,1⟩⟩,⟨.exit 0,⟨[],[],1,1,1,1⟩⟩]
abbrev q13:List PV:=[.ik .u8 0,.bk false,.bk false,.sk [],.ik .i64 0,.ik .i64 0,.sk [],.sk [],.ik .u8 0,.ik .u8 0,.ik .u8 0,.ik .u8 0,.bk false,.bk false,.sk [],.ik .i64 0,.ik .i64 0,.sk [],.sk [],.ik .u8 0,.ik .u8 0,.ik .u8 0,.ik .u8 0,.bk false,.bk false,.sk [],.ik .i64 0,.ik .i64 0,.sk [],.sk [],.ik .u8 0,.ik .u8 0,.ik .u8 0,.ws 3,.bk false,.bk false]
abbrev q98:List (Nat×PV):=[(0,.p 0 0),(2,.p 1 0),(3,.p 2 0),(5,.s),(6,.ws 3),(7,.p 4 0),(9,.i .i64)]
abbrev q20:List PV:=[.ik .u8 0,.bk false,.bk false,.sk [],.ik .i64 0,.ik .i64 0,.sk [],.sk [],.ik .u8 0,.ik .u8 0,.ik .u8 0,.ik .u8 0,.bk false,.bk false,.sk [],.ik .i64 0,.ik .i64 0,.sk [],.sk [],.ik .u8 0,.ik .u8 0,.ik .u8 0,.ik .u8 0,.bk false,.bk false,.sk [],.ik .i64 0,.ik .i64 0,.sk [],.sk [],.ik .u8 0,.ik .u8 0,.ik .u8 0,.ws 5,.bk false,.bk false]
abbrev q27:List PV:=[.i .u8,.bk false,.bk false,.sk [],.ik .i64 0,.ik .i64 0,.sk [],.sk [],.ik .u8 0,.ik .u8 0,.ik .u8 0,.ik .u8 0,.bk false,.bk false,.sk [],.ik .i64 0,.ik .i64 0,.sk [],.sk [],.ik .u8 0,.ik .u8 0,.ik .u8 0,.ik .u8 0,.bk false,.bk false,.sk [],.ik .i64 0,.ik .i64 0,.sk [],.sk [],.ik .u8 0,.ik .u8 0,.ik .u8 0,.ws 6,.b,.bk false]
abbrev q66:List PV:=[.bd,.b,.s,.i .i64,.i .i64,.s,.s,.i .u8,.i .u8,.i .u8,.bk false,.bk false,.bk false,.sk [],.ik .i64 0,.ik .i64 0,.sk [],.sk [],.ik .u8 0,.ik .u8 0,.ik .u8 0]
abbrev q36:List (Nat×PB):=[(0,.cells q33),(1,.cells q20),(2,.cells q27),(3,.rows [.i .i64]),(4,.cells q66),(5,.rows q11),(6,.rows q11)]
abbrev q86:PSt:=⟨[(0,.p 0 0),(2,.p 1 0),(3,.p 2 0),(5,.s),(6,.ws 3),(7,.p 4 0),(9,.i .i64),(49,.b)],q36,7,1,0,1⟩
abbrev q118:List (Nat×PV):=[(0,.p 0 0),(2,.p 1 0),(3,.p 2 0),(5,.s),(6,.ws 3)]
abbrev q21:List PV:=[.ik .u8 0,.bk false,.bk false,.sk [],.ik .i64 0,.ik .i64 0,.sk [],.sk [],.ik .u8 0,.ik .u8 0,.ik .u8 0,.ik .u8 0,.bk false,.bk false,.sk [],.ik .i64 0,.ik .i64 0,.sk [],.sk [],.ik .u8 0,.ik .u8 0,.ik .u8 0,.ik .u8 0,.bk false,.bk false,.sk [],.ik .i64 0,.ik .i64 0,.sk [],.sk [],.ik .u8 0,.ik .u8 0,.ik .u8 0,.ws 4,.bk false,.bk false]
abbrev q45:List PV:=[.i .u8,.bk false,.bk false,.sk [],.ik .i64 0,.ik .i64 0,.sk [],.sk [],.ik .u8 0,.ik .u8 0,.ik .u8 0,.ik .u8 0,.bk false,.bk false,.sk [],.ik .i64 0,.ik .i64 0,.sk [],.sk [],.ik .u8 0,.ik .u8 0,.ik .u8 0,.ik .u8 0,.bk false,.bk false,.sk [],.ik .i64 0,.ik .i64 0,.sk [],.sk [],.ik .u8 0,.ik .u8 0,.ik .u8 0,.ws 5,.b,.bk false]
abbrev q61:List PV:=[.i .u8,.bd,.b,.s,.i .i64,.i .i64,.s,.s,.i .u8,.i .u8,.i .u8,.i .u8,.bd,.b,.s,.i .i64,.i .i64,.s,.s,.i .u8,.i .u8,.i .u8,.i .u8,.bd,.b,.s,.i .i64,.i .i64,.s,.s,.i .u8,.i .u8,.i .u8,.ws 5,.b,.b]
abbrev q53:List PV:=[.p 0 0,.i .u8,.bd,.b,.s,.i .i64,.i .i64,.s,.s,.i .u8,.i .u8,.i .u8,.i .u8,.bd,.b,.s,.i .i64,.i .i64,.s,.s,.i .u8,.i .u8,.i .u8,.i .u8,.bd,.b,.s,.i .i64,.i .i64,.s,.s,.i .u8,.i .u8,.i .u8,.rs 21 1 0 .q (some .q),.b,.b,.i .i64]
abbrev q56:List PV:=[.p 0 0,.i .u8,.bd,.b,.s,.i .i64,.i .i64,.s,.s,.i .u8,.i .u8,.i .u8,.i .u8,.bd,.b,.s,.i .i64,.i .i64,.s,.s,.i .u8,.i .u8,.i .u8,.i .u8,.bd,.b,.s,.i .i64,.i .i64,.s,.s,.i .u8,.i .u8,.i .u8,.sn,.b,.b,.i .i64]
def c42(n:Nat):FF Tryz.prog 42 [.p 0 0] q84 1 1 [⟨.s,[],[],false⟩]:=funC Tryz.func42 Tryz.call42 [] [] [] [] [0] (cu n)
def c20(n:Nat):FF Tryz.prog 20 [.p 0 0] q84 1 1 [⟨.tp [.i .u8,.b],[],[],false⟩]:=funC Tryz.func20 Tryz.call20 [(c42 n).e] [] [] [] [0] (aY n)
def c46(n:Nat):FF Tryz.prog 46 [.p 0 0] q84 1 1 [⟨.i .i64,[],[],false⟩]:=funC Tryz.func46 Tryz.call46 [] [] [] [] [0] (bz n)
def c45(n:Nat):FF Tryz.prog 45 [.p 0 0,.i .i64,.i .i64] q84 1 1 [⟨.it 65 (.ag [.i .i64,.i .i64]),[],[],true⟩]:=funC Tryz.func45 Tryz.call45 [] [] [] [] [0] (aM n)
def c173(_n:Nat):FE Tryz.prog:=libF (KL Tryz.func173 (by kernel_rfl) (by kernel_rfl) (by kernel_rfl) (by kernel_rfl))
def c124(n:Nat):PF Tryz.prog 124 [.s,.i .u8] (.i .i64):=aJ Tryz.func124 Tryz.call124 [(c173 n)] [] [] [] (cV n)
def c76(n:Nat):PF Tryz.prog 76 [.s,.i .u8] (.i .i64):=aJ Tryz.func76 Tryz.call76 [(c124 n).e] [] [] [] (dj n)
def c43(n:Nat):FF Tryz.prog 43 [.p 0 0,.s] q84 0 1 [⟨.it 65 (.ag [.i .i64,.i .i64]),q52,[],true⟩,⟨.i .u8,q52,[],false⟩]:=funC Tryz.func43 Tryz.call43 [(c20 n).e,(c46 n).e,(c45 n).e,(c76 n).e] [] [] [] [0] (cn n)
def c44(n:Nat):PF Tryz.prog 44 [.i .u8] (.tp [.s,.s]):=aJ Tryz.func44 Tryz.call44 [] [] [] [] (lP n)
def c134(n:Nat):PF Tryz.prog 134 [.s,.s] (.b):=aJ Tryz.func134 Tryz.call134 [] [] [] [] (gy n)
def c78(n:Nat):PF Tryz.prog 78 [.s,.s] (.b):=aJ Tryz.func78 Tryz.call78 [(c134 n).e] [] [] [] (jq n)
def c48(n:Nat):FF Tryz.prog 48 [.p 0 0,.s] q84 1 1 [⟨.b,[],[],false⟩]:=funC Tryz.func48 Tryz.call48 [(c42 n).e,(c78 n).e] [] [] [] [0] (fE n)
def c23(n:Nat):FF Tryz.prog 23 [.p 0 0,.s] q84 0 1 [⟨.b,q52,[],false⟩]:=funC Tryz.func23 Tryz.call23 [(c48 n).e] [] [] [] [0] (aA n)
def c174(n:Nat):PF Tryz.prog 174 [] (.ag [.s,.s,.s,.s]):=aJ Tryz.func174 Tryz.call174 [] [] [] [] (wx n)
def VL(n:Nat):LP Tryz.prog Tryz.f142.ntmps:=cH [] [] 0 (sb (acM [] [] Tryz.f142) 0) false ⟨[(0,.sl 0 0 4 (some (.k 4))),(1,.s),(7,.i .i64),(8,.i .i64)],[(0,.cells [.s,.s,.s,.s])],1,1,1,1⟩ [] q116 (iH n) n
def c142(n:Nat):FF Tryz.prog 142 [.sl 0 0 4 (some (.k 4)),.s] [.cells [.s,.s,.s,.s]] 1 1 [⟨.i .i64,[],[],false⟩]:=funC Tryz.func142 Tryz.call142 [] [VL n] [] [] [0] (jx n)
def c126(n:Nat):PF Tryz.prog 126 [.i .u8] (.tp [.i .u8,.b]):=aJ Tryz.func126 Tryz.call126 [(c174 n).e,(c142 n).e] [] [] [] (mQ n)
def c125(n:Nat):FF Tryz.prog 125 [.p 0 0] [.cells [.p 1 0],.cells q33] 1 2 [⟨.it 65 (.ag [.i .i64,.i .i64]),q106,[],true⟩,⟨.i .u8,q106,[],false⟩]:=funC Tryz.func125 Tryz.call125 [(c20 n).e,(c126 n).e,(c43 n).e] [] [] [] [0,1] (cD n)
def U7(n:Nat):List (FE Tryz.prog):=[(c46 n).e,(c20 n).e,(c76 n).e,(c45 n).e]
def VS(n:Nat):LP Tryz.prog Tryz.f127.ntmps:=cH (U7 n) [] 0 (sb (acM [] [] Tryz.f127) 0) false ⟨[(0,.p 0 0),(1,.s),(2,.i .i64),(3,.i .i64),(9,.i .i64),(10,.i .u8),(11,.b)],q52,1,1,0,1⟩ [] [⟨.exit 0,⟨[(0,.p 0 0),(2,.i .i64),(9,.i .i64)],q52,1,1,0,1⟩⟩] (cS n) n
def c127(n:Nat):FF Tryz.prog 127 [.p 0 0,.s,.i .i64,.i .i64] q84 0 1 [⟨.it 65 (.ag [.i .i64,.i .i64]),q52,[],true⟩,⟨.s,q52,[],false⟩]:=funC Tryz.func127 Tryz.call127 (U7 n) [VS n] [] [] [0] (bY n)
noncomputable def KY(_n:Nat):Ent:=Q3 112 244
theorem IS(n:Nat):gg Tryz.prog (KY n):=Ou Tryz.call112 (λs n hl h w=>(Tryz.strconv_Atoi s n hl h w).mono λe w' ⟨h1,t,h2⟩=>⟨h1,h2▸pS _ _ _⟩) (λs hl h w hg=>NM s hl h w hg)
def c112(n:Nat):FE Tryz.prog:=libF (IS n)
def c175(n:Nat):FF Tryz.prog 175 [.s,.p 0 0] [.cells [.p 1 0],.cells q33] 1 2 [⟨.i .i64,q106,[],false⟩,⟨.it 65 (.ag [.i .i64,.i .i64]),q106,[],true⟩]:=funC Tryz.func175 Tryz.call175 [(c23 n).e,(c43 n).e,(c127 n).e,(c112 n)] [] [] [] [0,1] (cY n)
def c130(n:Nat):FF Tryz.prog 130 [.p 0 0] q84 0 1 [⟨.it 65 (.ag [.i .i64,.i .i64]),q52,[],true⟩,⟨.ag q41,q52,[],false⟩]:=funC Tryz.func130 Tryz.call130 [(c23 n).e,(c43 n).e,(c127 n).e,(c175 n).e] [] [] [] [0] (lU n)
def c129(n:Nat):FF Tryz.prog 129 q119 [.cells [.p 2 0],.cells q19,.cells q33] 1 3 [⟨.it 65 (.ag [.i .i64,.i .i64]),[(1,.cells q19),(2,.cells q33)],[],true⟩,⟨.tp [],[(1,.cells q19),(2,.cells q33)],[],false⟩]:=funC Tryz.func129 Tryz.call129 [(c130 n).e] [] [] [] [0,1,2] (jO n)
def c154(n:Nat):PF Tryz.prog 154 [.i .u8] (.i .i64):=aJ Tryz.func154 Tryz.call154 [] [] [] [] (dA n)
def Tv(n:Nat):List (FE Tryz.prog):=[(c154 n).e]
def UR(n:Nat):LP Tryz.prog Tryz.f103.ntmps:=cH (Tv n) [] 0 (sb (acM [] [] Tryz.f103) 0) false ⟨[(1,.i .i64),(13,.ai .u8 3),(14,.i .i64)],[],1,0,0,0⟩ [] q117 (cO n) n
def c103(n:Nat):PF Tryz.prog 103 [.ai .u8 3,.i .i64] (.i .i64):=aJ Tryz.func103 Tryz.call103 (Tv n) [UR n] [] [] (cf n)
def c176(n:Nat):FF Tryz.prog 176 [.i .i64,.p 2 0,.p 0 0,.p 1 0] [.ints .u8 3,.ints .u8 3,.cells [.i .u8]] 2 3 [⟨.i .u8,[(2,.cells [.i .u8])],[],false⟩]:=funC Tryz.func176 Tryz.call176 [] [] [] [] [2,0,1] (rN n)
def TX(n:Nat):List (FE Tryz.prog):=[(c103 n).e,(c176 n).e]
def Vy(n:Nat):LP Tryz.prog Tryz.f133.ntmps:=cH (TX n) [] 1 (sb (acM [0] [] Tryz.f133) 1) false ⟨[(6,.p 2 0),(12,.fn 176 [.p 5 0,.p 1 0,.p 0 0]),(13,.p 6 0),(14,.i .i64)],[(0,.ints .u8 3),(1,.ints .u8 3),(2,.ints .u8 3),(5,.cells [.i .u8]),(6,.ints .u8 3)],7,0,0,0⟩ [] [⟨.exit 2,⟨[(6,.p 2 0),(13,.p 6 0)],[(2,.ints .u8 3),(6,.ints .u8 3)],7,0,0,0⟩⟩] (qH n) n
def c133(n:Nat):PF Tryz.prog 133 [.ai .u8 3,.ai .u8 3,.i .i64] (.tp [.ai .u8 3,.i .i64]):=aJ Tryz.func133 Tryz.call133 (TX n) [Vy n] [0] [] (eK n)
def c128(n:Nat):FF Tryz.prog 128 [.p 0 0] [.cells [.fn 1000127 [.p 1 0]],.cells q33] 1 2 [⟨.it 65 (.ag [.i .i64,.i .i64]),q106,[],true⟩,⟨.s,q106,[],false⟩]:=funC Tryz.func128 Tryz.call128 [(c127 n).e] [] [] [] [0,1] (iE n)
def c131(n:Nat):FF Tryz.prog 131 [.p 0 0,.p 2 0] q95 2 4 [⟨.it 65 (.ag [.i .i64,.i .i64]),q91,[],true⟩,⟨.tp [],q91,[],false⟩]:=funC Tryz.func131 Tryz.call131 [(c128 n).e] [] [] [] [0,2,1,3] (jY n)
def c132(n:Nat):FF Tryz.prog 132 [.p 0 0,.p 2 0] q95 2 4 [⟨.it 65 (.ag [.i .i64,.i .i64]),q91,[],true⟩,⟨.tp [],q91,[],false⟩]:=funC Tryz.func132 Tryz.call132 [(c128 n).e] [] [] [] [0,2,1,3] (jR n)
def c77(n:Nat):FF Tryz.prog 77 [.p 0 0] q84 0 1 [⟨.it 65 (.ag [.i .i64,.i .i64]),q52,[],true⟩,⟨.tp [.ag q19,.ai .i64 3],q52,[],false⟩]:=funC Tryz.func77 Tryz.call77 [(c125 n).e,(c46 n).e,(c129 n).e,(c133 n).e,(c23 n).e,(c131 n).e,(c132 n).e] [] [0] [] [0] (jH n)
def c135(n:Nat):PF Tryz.prog 135 [.i .i64] (.i .i64):=aJ Tryz.func135 Tryz.call135 [] [] [] [] (dH n)
theorem pure_seasons_Check(n:Nat):∀a r,dH n a=some r->lj Tryz.prog 135 (argP [.i .i64] a) (encP (.i .i64) r):=λa r h=>(c135 n).ok a r h
def c79(n:Nat):PF Tryz.prog 79 q87 (.tp [.i .i64,.b]):=aJ Tryz.func79 Tryz.call79 [(c112 n),(c135 n).e] [] [] [] (bN n)
def c219(n:Nat):PF Tryz.prog 219 [.i .i32] (.b):=aJ Tryz.func219 Tryz.call219 [] [] [] [] (dV n)
def Ks(n:Nat):List (FE Tryz.prog):=[(c76 n).e,(c219 n).e]
def TN(n:Nat):LP Tryz.prog Tryz.f189.ntmps:=cH (Ks n) [] 0 (sb (acM [] [] Tryz.f189) 0) false ⟨[(175,.p 0 0)],[(0,.iter)],1,0,0,0⟩ [] [⟨.ret,⟨q83,[],1,0,0,0⟩⟩,⟨.exit 9,⟨[],[],1,0,0,0⟩⟩] (dP n) n
def Ui(n:Nat):LP Tryz.prog Tryz.f189.ntmps:=cH (Ks n) [] 2 (sb (sb (acM [] [] Tryz.f189) 1).body 2) false ⟨q114,[],128,0,0,0⟩ [] [⟨.exit 3,⟨[(8,.i .i64),(9,.i .i64)],[],128,0,0,0⟩⟩] (mO n) n
def RH(n:Nat):LP Tryz.prog Tryz.f189.ntmps:=cH (Ks n) [] 2 (sb (sb (acM [] [] Tryz.f189) 1).body 2) false ⟨q114,[],56,0,0,0⟩ [] [⟨.exit 3,⟨[(8,.i .i64),(9,.i .i64)],[],56,0,0,0⟩⟩] (mi n) n
def UJ(n:Nat):LP Tryz.prog Tryz.f189.ntmps:=cH (Ks n) [altL (Ui n) (RH n) rfl] 1 (sb (acM [] [] Tryz.f189) 1) false ⟨[(0,.s),(7,.s),(8,.i .i64),(9,.i .i64)],[],0,0,0,0⟩ [] [⟨.ret,q115⟩,⟨.exit 1,q94⟩] (dN n) n
def c189(n:Nat):PF Tryz.prog 189 [.s,.i .i32] (.i .i64):=aJ Tryz.func189 Tryz.call189 (Ks n) [TN n,UJ n,noL 3 (sb (acM [] [] Tryz.f189) 3)] [] [] (dZ n)
def c179(n:Nat):PF Tryz.prog 179 [.s,.i .i32] (.b):=aJ Tryz.func179 Tryz.call179 [(c189 n).e] [] [] [] (dM n)
def c223(n:Nat):FF Tryz.prog 223 [.i .i32,.p 0 0] [.cells [.s]] 1 1 [⟨.b,[],[],false⟩]:=funC Tryz.func223 Tryz.call223 [(c179 n).e] [] [] [] [0] (jQ n)
def US(n:Nat):List (FE Tryz.prog):=[(c223 n).e]
def V6(n:Nat):LP Tryz.prog Tryz.f248.ntmps:=cH (US n) [] 0 (sb (acM [] [] Tryz.f248) 0) false ⟨[(1,.fn 223 [.p 0 0]),(2,.b),(10,.p 1 0)],[(0,.cells [.s]),(1,.iter)],2,1,1,1⟩ [] [⟨.ret,⟨[(6,.i .i64)],[],2,1,1,1⟩⟩,⟨.exit 0,⟨[],[],2,1,1,1⟩⟩] (cN n) n
def c248(n:Nat):FF Tryz.prog 248 [.s,.fn 223 [.p 0 0],.b] [.cells [.s]] 1 1 [⟨.i .i64,[],[],false⟩]:=funC Tryz.func248 Tryz.call248 (US n) [V6 n] [] [] [0] (lJ n)
def c222(n:Nat):FF Tryz.prog 222 [.s,.fn 223 [.p 0 0]] [.cells [.s]] 1 1 [⟨.i .i64,[],[],false⟩]:=funC Tryz.func222 Tryz.call222 [(c248 n).e] [] [] [] [0] (lz n)
def c192(n:Nat):PF Tryz.prog 192 [.s,.s] (.b):=aJ Tryz.func192 Tryz.call192 [(c222 n).e] [] [] [] (gn n)
def VX(n:Nat):LP Tryz.prog Tryz.f136.ntmps:=cH [] [] 0 (sb (acM [] [] Tryz.f136) 0) false ⟨[(0,.s),(1,.i .u8)],[],0,0,0,0⟩ [] [⟨.exit 0,⟨[(0,.s)],[],0,0,0,0⟩⟩] (dn n) n
def c136(n:Nat):PF Tryz.prog 136 [.s,.i .u8] (.s):=aJ Tryz.func136 Tryz.call136 [] [VX n] [] [] (gh n)
def Wh(n:Nat):LP Tryz.prog Tryz.f224.ntmps:=cH [] [] 0 (sb (acM [] [] Tryz.f224) 0) false ⟨[(0,.s),(1,.i .u8)],[],0,0,0,0⟩ [] [⟨.exit 0,⟨[(0,.s)],[],0,0,0,0⟩⟩] (fm n) n
def c224(n:Nat):PF Tryz.prog 224 [.s,.i .u8] (.s):=aJ Tryz.func224 Tryz.call224 [] [Wh n] [] [] (gJ n)
def c193(n:Nat):PF Tryz.prog 193 [.s,.sk [48]] (.s):=aJ Tryz.func193 Tryz.call193 [(c136 n).e,(c224 n).e] [] [] [] (nV n)
def c214(n:Nat):PF Tryz.prog 214 [.s,.sk [88]] (.i .i64):=aJ Tryz.func214 Tryz.call214 [(c124 n).e] [noL 0 (sb (acM [] [] Tryz.f214) 0)] [] [] (jg n)
def c180(n:Nat):PF Tryz.prog 180 [.s,.sk [88]] (.i .i64):=aJ Tryz.func180 Tryz.call180 [(c214 n).e] [] [] [] (mY n)
def c141(n:Nat):PF Tryz.prog 141 [.s,.sk [88]] (.b):=aJ Tryz.func141 Tryz.call141 [(c180 n).e] [] [] [] (iz n)
def c152(n:Nat):PF Tryz.prog 152 [.ag q41] (.b):=aJ Tryz.func152 Tryz.call152 [(c141 n).e] [] [] [] (db n)
noncomputable def Nb(_n:Nat):Ent:=L8 201
theorem IV(n:Nat):gg Tryz.prog (Nb n):=Jp Tryz.call201 λs h v hv w=>(Tryz.strconv_ParseInt_10_at64_ok s h v hv w).mono λe w' ⟨h1,h2⟩=>⟨h1,h2.elim (λh=>h▸RowKit.Below.refl _ _) (λ⟨t,h⟩=>h▸pS _ _ _)⟩
def c201(n:Nat):FE Tryz.prog:=libF (IV n)
def TV(n:Nat):LP Tryz.prog Tryz.f202.ntmps:=cH [] [] 0 (sb (acM [] [] Tryz.f202) 0) false ⟨[(4,.i .i64),(9,.i .i64),(10,.i .i64)],[],0,0,0,0⟩ [] [⟨.exit 0,q115⟩] (kN n) n
def c202(n:Nat):PF Tryz.prog 202 [.i .i64] (.tp [.i .i64,.i .i64]):=aJ Tryz.func202 Tryz.call202 [] [TV n] [] [] (o5 n)
def c237(n:Nat):PF Tryz.prog 237 [.i .i64] (.i .u64):=aJ Tryz.func237 Tryz.call237 [] [] [] [] (tM n)
def c236(n:Nat):PF Tryz.prog 236 [.i .u64,.i .u64] (.tp [.i .u64,.i .u64]):=aJ Tryz.func236 Tryz.call236 [] [] [] [] (kA n)
def c238(n:Nat):PF Tryz.prog 238 [.i .u64,.b] (.tp [.i .i64,.i .i64]):=aJ Tryz.func238 Tryz.call238 [] [] [] [] (sS n)
def c203(n:Nat):PF Tryz.prog 203 [.i .i64,.i .i64] (.tp [.i .i64,.i .i64]):=aJ Tryz.func203 Tryz.call203 [(c237 n).e,(c236 n).e,(c238 n).e] [] [] [] (vI n)
def c158(n:Nat):PF Tryz.prog 158 [.ag q41] (.tp [.i .i64,.i .i64]):=aJ Tryz.func158 Tryz.call158 [(c201 n),(c202 n).e,(c203 n).e] [] [] [] (ef n)
def c194(n:Nat):PF Tryz.prog 194 [.ag q41] (.b):=aJ Tryz.func194 Tryz.call194 [(c192 n).e,(c158 n).e] [] [] [] (aT n)
def c151(n:Nat):PF Tryz.prog 151 [.ag q41] (.i .i64):=aJ Tryz.func151 Tryz.call151 [(c192 n).e,(c193 n).e,(c152 n).e,(c194 n).e] [] [] [] (jh n)
def c111(n:Nat):PF Tryz.prog 111 [.ag q41] (.tp [.i .i64,.i .i64]):=aJ Tryz.func111 Tryz.call111 [(c151 n).e,(c152 n).e,(c158 n).e] [] [] [] (eG n)
noncomputable def yI(l:List V):Option (Int):=match l with
 | [.i .i64 a0]=>some (a0)
 | _=>none
noncomputable def M8(n:Nat):Ent:=DZ 195 yI (λa=>fD n a) (λr=>.tp [.i .i64 r.1,.i .i64 r.2.1,.i .i64 r.2.2])
theorem Io(n:Nat):gg Tryz.prog (M8 n):=tn (arg:=λa=>[.i .i64 a]) Tryz.call195 (λl a h=>by
 unfold yI at h
 split at h
 ·cases h;rfl
 ·cases h) (λa=>rfl) (λa r h=>sB n (λx r h=>pure_seasons_Check n x r h) a r h)
def c195(n:Nat):FE Tryz.prog:=libF (Io n)
def c209(n:Nat):PF Tryz.prog 209 [.i .i64] (.i .i64):=aJ Tryz.func209 Tryz.call209 [] [] [] [] (ja n)
def c199(n:Nat):PF Tryz.prog 199 [.i .i64,.i .i64] (.i .i64):=aJ Tryz.func199 Tryz.call199 [(c209 n).e] [] [] [] (ku n)
def c250(n:Nat):PF Tryz.prog 250 [.i .i64,.i .i64] (.tp [.i .i64,.i .i64]):=aJ Tryz.func250 Tryz.call250 [] [] [] [] (Ge n)
def c228(n:Nat):PF Tryz.prog 228 [.i .i64,.i .i64] (.tp [.i .i64,.i .i64]):=aJ Tryz.func228 Tryz.call228 [(c250 n).e] [] [] [] (lR n)
theorem pure_ints_Div(n:Nat):∀a r,lR n a.1 a.2=some r->lj Tryz.prog 228 (argP [.i .i64,.i .i64] a) (encP (.tp [.i .i64,.i .i64]) r):=λa r h=>(c228 n).ok a r h
noncomputable def zj(l:List V):Option (Int):=match l with
 | [.i .i64 a0]=>some (a0)
 | _=>none
noncomputable def JJ(n:Nat):Ent:=DZ 243 zj (λa=>fA n a) (λr=>.i .i64 r)
theorem IJ(n:Nat):gg Tryz.prog (JJ n):=tn (arg:=λa=>[.i .i64 a]) Tryz.call243 (λl a h=>by
 unfold zj at h
 split at h
 ·cases h;rfl
 ·cases h) (λa=>rfl) (λa r h=>uL n (λx y r h=>pure_ints_Div n (x,y) r h) a r h)
def c243(n:Nat):FE Tryz.prog:=libF (IJ n)
def c210(n:Nat):PF Tryz.prog 210 [.i .i64] (.i .i64):=aJ Tryz.func210 Tryz.call210 [(c243 n)] [] [] [] (lM n)
def c163(n:Nat):PF Tryz.prog 163 [.i .i64] (.tp [.i .i64,.i .i64]):=aJ Tryz.func163 Tryz.call163 [(c209 n).e,(c210 n).e] [] [] [] (lA n)
def c235(n:Nat):PF Tryz.prog 235 [.i .i64] (.tp [.b,.i .i64]):=aJ Tryz.func235 Tryz.call235 [(c209 n).e,(c243 n)] [] [] [] (km n)
theorem pure_years_Leap(n:Nat):∀a r,km n a=some r->lj Tryz.prog 235 (argP [.i .i64] a) (encP (.tp [.b,.i .i64]) r):=λa r h=>(c235 n).ok a r h
noncomputable def yZ(l:List V):Option (Int×Int):=match l with
 | [.i .i64 a0,.i .i64 a1]=>some (a0,a1)
 | _=>none
noncomputable def JZ(n:Nat):Ent:=DZ 200 yZ (λa=>ew n a.1 a.2) (λr=>.i .i64 r)
theorem H5(n:Nat):gg Tryz.prog (JZ n):=tn (arg:=λa=>[.i .i64 a.1,.i .i64 a.2]) Tryz.call200 (λl a h=>by
 unfold yZ at h
 split at h
 ·cases h;rfl
 ·cases h) (λa=>rfl) (λa r h=>tJ n (λx r h=>pure_years_Leap n x r h) a.1 a.2 r h)
def c200(n:Nat):FE Tryz.prog:=libF (H5 n)
def UB(n:Nat):List (FE Tryz.prog):=[(c199 n).e,(c163 n).e,(c200 n)]
def Tu(n:Nat):LP Tryz.prog Tryz.f167.ntmps:=cH (UB n) [] 0 (sb (acM [] [] Tryz.f167) 0) false ⟨[(0,.i .i64),(7,.i .i64),(22,.i .i64),(23,.i .i64)],[],0,0,0,0⟩ [] [⟨.exit 0,⟨[(7,.i .i64)],[],0,0,0,0⟩⟩] (bD n) n
def c167(n:Nat):PF Tryz.prog 167 [.i .i64,.i .i64] (.tp [.i .i64,.i .i64]):=aJ Tryz.func167 Tryz.call167 (UB n) [Tu n] [] [] (fB n)
noncomputable def zG(l:List V):Option (Int×Int):=match l with
 | [.i .i64 a0,.i .i64 a1]=>some (a0,a1)
 | _=>none
noncomputable def KN(n:Nat):Ent:=DZ 227 zG (λa=>rG n a.1 a.2) (λr=>.tp [.i .i64 r.1,.i .i64 r.2])
theorem IT(n:Nat):gg Tryz.prog (KN n):=tn (arg:=λa=>[.i .i64 a.1,.i .i64 a.2]) Tryz.call227 (λl a h=>by
 unfold zG at h
 split at h
 ·cases h;rfl
 ·cases h) (λa=>rfl) (λa r h=>AZ n a.1 a.2 r h)
def c227(n:Nat):FE Tryz.prog:=libF (IT n)
def c229(n:Nat):PF Tryz.prog 229 [.i .i64,.i .i64] (.tp [.i .i64,.i .i64]):=aJ Tryz.func229 Tryz.call229 [] [] [] [] (vC n)
def c196(n:Nat):PF Tryz.prog 196 [.i .i64,.i .i64,.i .i64] (.tp [.i .i64,.i .i64,.i .i64]):=aJ Tryz.func196 Tryz.call196 [(c199 n).e,(c227 n),(c228 n).e,(c229 n).e,(c209 n).e] [] [] [] (oS n)
def c168(n:Nat):PF Tryz.prog 168 [.i .i64,.i .i64] (.tp [.i .i64,.i .i64]):=aJ Tryz.func168 Tryz.call168 [(c167 n).e,(c200 n)] [] [] [] (gV n)
def c153(n:Nat):PF Tryz.prog 153 [.i .i64,.i .i64] (.tp [.ag q63,.i .i64]):=aJ Tryz.func153 Tryz.call153 [(c195 n),(c167 n).e,(c196 n).e,(c168 n).e] [] [] [] (iq n)
def c101(n:Nat):PF Tryz.prog 101 q87 (.b):=aJ Tryz.func101 Tryz.call101 [(c151 n).e,(c79 n).e,(c152 n).e,(c111 n).e,(c153 n).e] [] [] [] (fH n)
def V5(n:Nat):LP Tryz.prog Tryz.f102.ntmps:=cH [] [] 0 (sb (acM [] [] Tryz.f102) 0) false q123 [] [⟨.ret,⟨[(4,.b)],[],0,0,0,0⟩⟩,⟨.exit 0,q94⟩] (dh n) n
def c102(n:Nat):PF Tryz.prog 102 q33 (.b):=aJ Tryz.func102 Tryz.call102 [] [V5 n] [] [] (dc n)
def TT(n:Nat):LP Tryz.prog Tryz.f104.ntmps:=cH [] [] 0 (sb (acM [] [] Tryz.f104) 0) false ⟨[(3,.i .i64),(10,.ag [.s,.s]),(11,.i .i64)],[],1,0,0,0⟩ [] [⟨.exit 0,⟨[(3,.i .i64)],[],1,0,0,0⟩⟩] (bV n) n
def c104(n:Nat):PF Tryz.prog 104 q87 (.i .i64):=aJ Tryz.func104 Tryz.call104 [] [TT n] [] [] (bJ n)
def c64(n:Nat):PF Tryz.prog 64 q87 (.i .i64):=aJ Tryz.func64 Tryz.call64 [(c79 n).e,(c101 n).e,(c102 n).e,(c104 n).e,(c103 n).e] [] [] [] (kP n)
def c155(n:Nat):PF Tryz.prog 155 q33 (.b):=aJ Tryz.func155 Tryz.call155 [] [] [] [] (lc n)
def UP(n:Nat):List (FE Tryz.prog):=[(c155 n).e]
def VO(n:Nat):LP Tryz.prog Tryz.f105.ntmps:=cH (UP n) [] 0 (sb (acM [] [] Tryz.f105) 0) false ⟨[(0,.s),(5,.ws 0),(7,.i .i64),(8,.i .i64)],q75,1,0,0,0⟩ [.nilT 5 0 [.i .i64]] [⟨.exit 0,⟨[(5,.ws 0)],q75,1,0,0,0⟩⟩] (fW n) n
def c105(n:Nat):FF Tryz.prog 105 q33 [] 0 0 [⟨.ws 0,q75,[0],false⟩]:=funC Tryz.func105 Tryz.call105 (UP n) [VO n] [] [] [] (fg n)
def c65(n:Nat):FF Tryz.prog 65 q87 [] 0 0 [⟨.ag q38,[(0,.rows [.i .i64]),(1,.rows [.i .i64])],[0,1],false⟩]:=funC Tryz.func65 Tryz.call65 [(c79 n).e,(c105 n).e] [] [] [] [] (pj n)
def c106(n:Nat):FF Tryz.prog 106 [.ws 0] q92 1 1 [⟨.ws 1,[(1,.rows [.i .i64])],[1],false⟩]:=funC Tryz.func106 Tryz.call106 [] [] [] [] [0] (jy n)
def Vq(n:Nat):LP Tryz.prog Tryz.f107.ntmps:=cH [] [] 0 (sb (acM [] [] Tryz.f107) 0) false ⟨[(0,.ws 0),(2,.i .i64),(3,.i .i64)],q75,1,1,0,1⟩ [] [⟨.exit 0,⟨[],q75,1,1,0,1⟩⟩] (jL n) n
def c107(n:Nat):FF Tryz.prog 107 [.ws 0] q92 0 1 [⟨.tp [],q75,[],false⟩]:=funC Tryz.func107 Tryz.call107 [] [Vq n] [] [] [0] (iS n)
def U0(n:Nat):LP Tryz.prog Tryz.f230.ntmps:=cH [] [] 0 (sb (acM [] [] Tryz.f230) 0) false ⟨[(0,.s),(9,.p 0 0)],[(0,.iter)],1,0,0,0⟩ [] [⟨.ret,q101⟩,⟨.exit 0,⟨[(0,.s)],[],1,0,0,0⟩⟩] (iK n) n
def c230(n:Nat):PF Tryz.prog 230 [.s] (.i .i64):=aJ Tryz.func230 Tryz.call230 [] [U0 n] [] [] (kh n)
def Uj(n:Nat):LP Tryz.prog Tryz.f251.ntmps:=cH [] [] 0 (sb (acM [] [] Tryz.f251) 0) false ⟨[(1,.i .u8),(5,.i .i64),(9,.ws 0),(10,.i .i64),(11,.i .i64)],[(0,.rows [.i .u8])],1,0,0,0⟩ [] [⟨.exit 0,⟨[(5,.i .i64)],[],1,0,0,0⟩⟩] (g9 n) n
def c251(n:Nat):PF Tryz.prog 251 [.s,.i .u8] (.i .i64):=aJ Tryz.func251 Tryz.call251 [] [Uj n] [] [] (mb n)
def c231(n:Nat):PF Tryz.prog 231 [.s] (.tp [.i .i64,.i .i64]):=aJ Tryz.func231 Tryz.call231 [(c230 n).e,(c251 n).e] [] [] [] (o6 n)
def c252(n:Nat):PF Tryz.prog 252 [.i .i64] (.i .i64):=aJ Tryz.func252 Tryz.call252 [(c202 n).e] [] [] [] (pm n)
def c232(n:Nat):PF Tryz.prog 232 q33 (.b):=aJ Tryz.func232 Tryz.call232 [(c252 n).e] [] [] [] (l8 n)
def Tq(n:Nat):LP Tryz.prog Tryz.f253.ntmps:=cH [] [] 0 (sb (acM [] [] Tryz.f253) 0) false ⟨[(1,.i .i64),(4,.p 0 0),(5,.i .i64)],[(0,.ints .u8 18)],1,0,0,0⟩ [] [⟨.exit 0,⟨[(4,.p 0 0)],[(0,.ints .u8 18)],1,0,0,0⟩⟩] (iL n) n
def c253(n:Nat):PF Tryz.prog 253 q33 (.ai .u8 18):=aJ Tryz.func253 Tryz.call253 [] [Tq n] [] [] (lH n)
def c254(n:Nat):PF Tryz.prog 254 [.s,.ai .u8 18] (.i .i64):=aJ Tryz.func254 Tryz.call254 [(c251 n).e] [] [] [] (gq n)
def OF(n:Nat):List (FE Tryz.prog):=[(c253 n).e,(c254 n).e]
def Vs(n:Nat):LP Tryz.prog Tryz.f233.ntmps:=cH (OF n) [] 0 (sb (acM [] [] Tryz.f233) 0) false q70 [] [⟨.exit 0,q70⟩] (fJ n) n
def UK(n:Nat):LP Tryz.prog Tryz.f233.ntmps:=cH (OF n) [] 1 (sb (acM [] [] Tryz.f233) 1) false ⟨[(0,.s),(2,.b),(8,.i .u8),(9,.i .u8),(10,.p 0 0),(11,.p 1 0),(12,.i .i64)],[(0,.ints .u8 18),(1,.ints .u8 18)],74,0,0,0⟩ [] [⟨.ret,⟨[(6,.i .i64),(7,.i .i64)],[],74,0,0,0⟩⟩,⟨.exit 2,⟨[(0,.s),(2,.b),(8,.i .u8),(11,.p 1 0),(12,.i .i64)],[(1,.ints .u8 18)],74,0,0,0⟩⟩] (cw n) n
def Vl(n:Nat):LP Tryz.prog Tryz.f233.ntmps:=cH (OF n) [] 2 (sb (acM [] [] Tryz.f233) 2) false ⟨[(0,.s),(8,.i .u8),(11,.p 1 0),(12,.i .i64)],[(1,.ints .u8 18)],74,0,0,0⟩ [] [⟨.exit 5,⟨[(0,.s),(11,.p 1 0)],[(1,.ints .u8 18)],74,0,0,0⟩⟩] (bs n) n
def c233(n:Nat):PF Tryz.prog 233 [.s,.i .i64,.b] (.tp [.i .i64,.i .i64]):=aJ Tryz.func233 Tryz.call233 (OF n) [Vs n,UK n,Vl n] [] [] (dk n)
def c197(n:Nat):PF Tryz.prog 197 q33 (.tp [.i .i64,.i .i64]):=aJ Tryz.func197 Tryz.call197 [(c230 n).e,(c231 n).e,(c232 n).e,(c233 n).e] [] [] [] (re n)
def c234(n:Nat):PF Tryz.prog 234 [.s] (.tp [.i .i64,.i .i64]):=aJ Tryz.func234 Tryz.call234 [(c230 n).e,(c251 n).e] [] [] [] (lV n)
def c198(n:Nat):PF Tryz.prog 198 q33 (.tp [.i .i64,.i .i64]):=aJ Tryz.func198 Tryz.call198 [(c230 n).e,(c232 n).e,(c234 n).e,(c233 n).e] [] [] [] (rf n)
def c156(n:Nat):PF Tryz.prog 156 [.s,.i .i64,.b,.i .i64] (.tp [.i .i64,.b]):=aJ Tryz.func156 Tryz.call156 [(c197 n).e,(c198 n).e] [] [] [] (fL n)
def c109(n:Nat):FF Tryz.prog 109 [.ag q38,.i .i64,.b] q109 2 2 [⟨.tp [.i .i64,.b],[],[],false⟩]:=funC Tryz.func109 Tryz.call109 [(c152 n).e,(c111 n).e,(c156 n).e] [] [] [] [0,1] (co n)
def c108(n:Nat):FF Tryz.prog 108 [.i .i64,.i .i64,.p 0 0] [.cells [.b]] 1 1 [⟨.b,[],[],false⟩]:=funC Tryz.func108 Tryz.call108 [] [] [] [] [0] (cK n)
def c157(n:Nat):PF Tryz.prog 157 [.i .i64,.i .i64] (.tp [.i .i64,.i .i64]):=aJ Tryz.func157 Tryz.call157 [(c199 n).e,(c200 n)] [] [] [] (oz n)
def c110(n:Nat):FF Tryz.prog 110 [.ag q38,.i .i64,.i .i64] q109 2 2 [⟨.i .i64,[],[],false⟩]:=funC Tryz.func110 Tryz.call110 [(c157 n).e] [] [] [] [0,1] (eY n)
def c66E(n:Nat):List (FE Tryz.prog):=[(c106 n).e,(c107 n).e,(c109 n).e,(c108 n).e,(c110 n).e]
def WA(n:Nat):LP Tryz.prog Tryz.f66.ntmps:=eo (c66E n) [] 1003 (sb (acM [] [3,17,20,23,30] Tryz.f66) 1003) false ⟨[(3,.p 2 0),(4,.p 3 0),(5,.p 4 0),(6,.p 5 0),(8,.ik .i64 1),(9,.ws 0),(10,.ws 1),(25,.b)],q67,62,2,2,2⟩ [⟨.nrm,⟨[(3,.p 2 0),(4,.p 3 0),(5,.p 4 0),(6,.p 5 0),(8,.ik .i64 (-1)),(9,.ws 62),(10,.ws 63)],[(0,.rows [.i .i64]),(1,.rows [.i .i64]),(2,.cells q38),(3,.cells [.i .i64,.i .i64,.i .i64]),(4,.cells [.b]),(5,.cells [.ik .i64 0,.ik .i64 0,.ik .i64 0]),(62,.rows [.i .i64]),(63,.rows [.i .i64])],64,2,2,2⟩⟩,⟨.nrm,⟨[(3,.p 2 0),(4,.p 3 0),(5,.p 4 0),(6,.p 5 0),(8,.ik .i64 1),(9,.ws 0),(10,.ws 1)],q67,62,2,2,2⟩⟩] (jd n)
def Qc(n:Nat):LP Tryz.prog Tryz.f66.ntmps:=eo (c66E n) [] 1020 (sb (sb (sb (sb (acM [] [3,17,20,23,30] Tryz.f66) 0).body 1).body 1017) 1020) false ⟨[(3,.p 2 0),(4,.p 3 0),(5,.p 4 0),(6,.p 5 0),(8,.i .i64),(9,.ws 62),(10,.ws 63),(11,.fn 108 [.p 4 0]),(12,.i .i64),(15,.i .i64),(16,.b),(53,.ws 62),(54,.i .i64),(55,.i .i64)],q15,64,2,2,2⟩ [⟨.nrm,⟨[(3,.p 2 0),(4,.p 3 0),(5,.p 4 0),(6,.p 5 0),(8,.i .i64),(9,.ws 62),(10,.ws 63),(11,.fn 108 [.p 4 0]),(12,.i .i64),(15,.i .i64),(16,.b),(53,.ws 62),(54,.i .i64),(55,.i .i64),(76,.b)],q15,64,2,2,2⟩⟩] (lq n)
def Jw(n:Nat):LP Tryz.prog Tryz.f66.ntmps:=eo (c66E n) [] 1020 (sb (sb (sb (sb (acM [] [3,17,20,23,30] Tryz.f66) 0).body 1).body 1017) 1020) false ⟨[(3,.p 2 0),(4,.p 3 0),(5,.p 4 0),(6,.p 5 0),(8,.i .i64),(9,.ws 0),(10,.ws 1),(11,.fn 108 [.p 4 0]),(12,.i .i64),(15,.i .i64),(16,.b),(53,.ws 0),(54,.i .i64),(55,.i .i64)],q18,62,2,2,2⟩ [⟨.nrm,⟨[(3,.p 2 0),(4,.p 3 0),(5,.p 4 0),(6,.p 5 0),(8,.i .i64),(9,.ws 0),(10,.ws 1),(11,.fn 108 [.p 4 0]),(12,.i .i64),(15,.i .i64),(16,.b),(53,.ws 0),(54,.i .i64),(55,.i .i64),(76,.b)],q18,62,2,2,2⟩⟩] (fe n)
def Qj(n:Nat):LP Tryz.prog Tryz.f66.ntmps:=eo (c66E n) [] 1023 (sb (sb (sb (sb (acM [] [3,17,20,23,30] Tryz.f66) 0).body 1).body 1017) 1023) false q58 [⟨.nrm,q58⟩] (ls n)
def La(n:Nat):LP Tryz.prog Tryz.f66.ntmps:=eo (c66E n) [] 1023 (sb (sb (sb (sb (acM [] [3,17,20,23,30] Tryz.f66) 0).body 1).body 1017) 1023) false q59 [⟨.nrm,q59⟩] (fc n)
def Qg(n:Nat):LP Tryz.prog Tryz.f66.ntmps:=eo (c66E n) [] 1030 (sb (sb (sb (sb (sb (acM [] [3,17,20,23,30] Tryz.f66) 0).body 1).body 1017) 2).body 1030) false ⟨[(3,.p 2 0),(4,.p 3 0),(5,.p 4 0),(6,.p 5 0),(8,.i .i64),(9,.ws 62),(10,.ws 63),(11,.fn 108 [.p 4 0]),(12,.i .i64),(15,.i .i64),(16,.b),(17,.i .i64),(19,.i .i64),(53,.ws 62),(54,.i .i64),(55,.i .i64),(94,.ws 63),(95,.i .i64),(96,.i .i64)],q15,64,2,2,2⟩ [⟨.nrm,⟨[(3,.p 2 0),(4,.p 3 0),(5,.p 4 0),(6,.p 5 0),(8,.i .i64),(9,.ws 62),(10,.ws 63),(11,.fn 108 [.p 4 0]),(12,.i .i64),(15,.i .i64),(16,.b),(17,.i .i64),(19,.i .i64),(53,.ws 62),(54,.i .i64),(55,.i .i64),(94,.ws 63),(95,.i .i64),(96,.i .i64),(119,.b)],q15,64,2,2,2⟩⟩] (ll n)
def JH(n:Nat):LP Tryz.prog Tryz.f66.ntmps:=eo (c66E n) [] 1030 (sb (sb (sb (sb (sb (acM [] [3,17,20,23,30] Tryz.f66) 0).body 1).body 1017) 2).body 1030) false ⟨[(3,.p 2 0),(4,.p 3 0),(5,.p 4 0),(6,.p 5 0),(8,.i .i64),(9,.ws 0),(10,.ws 1),(11,.fn 108 [.p 4 0]),(12,.i .i64),(15,.i .i64),(16,.b),(17,.i .i64),(19,.i .i64),(53,.ws 0),(54,.i .i64),(55,.i .i64),(94,.ws 1),(95,.i .i64),(96,.i .i64)],q18,62,2,2,2⟩ [⟨.nrm,⟨[(3,.p 2 0),(4,.p 3 0),(5,.p 4 0),(6,.p 5 0),(8,.i .i64),(9,.ws 0),(10,.ws 1),(11,.fn 108 [.p 4 0]),(12,.i .i64),(15,.i .i64),(16,.b),(17,.i .i64),(19,.i .i64),(53,.ws 0),(54,.i .i64),(55,.i .i64),(94,.ws 1),(95,.i .i64),(96,.i .i64),(119,.b)],q18,62,2,2,2⟩⟩] (ij n)
def Uu(n:Nat):LP Tryz.prog Tryz.f66.ntmps:=cH (c66E n) [altL (Qg n) (JH n) rfl] 2 (sb (sb (sb (sb (acM [] [3,17,20,23,30] Tryz.f66) 0).body 1).body 1017) 2) false ⟨[(3,.p 2 0),(4,.p 3 0),(5,.p 4 0),(6,.p 5 0),(8,.i .i64),(9,.ws 62),(10,.ws 63),(11,.fn 108 [.p 4 0]),(12,.i .i64),(15,.i .i64),(16,.b),(17,.i .i64),(53,.ws 62),(54,.i .i64),(55,.i .i64),(94,.ws 63),(95,.i .i64),(96,.i .i64)],q15,64,2,2,2⟩ [] [⟨.ret,q120⟩,⟨.exit 4,q37⟩] (mj n) n
def PZ(n:Nat):LP Tryz.prog Tryz.f66.ntmps:=cH (c66E n) [altL (Qg n) (JH n) rfl] 2 (sb (sb (sb (sb (acM [] [3,17,20,23,30] Tryz.f66) 0).body 1).body 1017) 2) false ⟨[(3,.p 2 0),(4,.p 3 0),(5,.p 4 0),(6,.p 5 0),(8,.i .i64),(9,.ws 0),(10,.ws 1),(11,.fn 108 [.p 4 0]),(12,.i .i64),(15,.i .i64),(16,.b),(17,.i .i64),(53,.ws 0),(54,.i .i64),(55,.i .i64),(94,.ws 1),(95,.i .i64),(96,.i .i64)],q18,62,2,2,2⟩ [] [⟨.ret,q121⟩,⟨.exit 4,q39⟩] (bH n) n
def Qi(n:Nat):LP Tryz.prog Tryz.f66.ntmps:=eo (c66E n) [altL (Qc n) (Jw n) rfl,altL (Qj n) (La n) rfl,altL (Uu n) (PZ n) rfl] 1017 (sb (sb (sb (acM [] [3,17,20,23,30] Tryz.f66) 0).body 1).body 1017) false q37 [⟨.nrm,q37⟩,⟨.ret,q120⟩] (lw n)
def K5(n:Nat):LP Tryz.prog Tryz.f66.ntmps:=eo (c66E n) [altL (Qc n) (Jw n) rfl,altL (Qj n) (La n) rfl,altL (Uu n) (PZ n) rfl] 1017 (sb (sb (sb (acM [] [3,17,20,23,30] Tryz.f66) 0).body 1).body 1017) false q39 [⟨.nrm,q39⟩,⟨.ret,q121⟩] (ir n)
def VG(n:Nat):LP Tryz.prog Tryz.f66.ntmps:=cH (c66E n) [altL (Qi n) (K5 n) rfl] 1 (sb (sb (acM [] [3,17,20,23,30] Tryz.f66) 0).body 1) false q37 [] [⟨.ret,q120⟩,⟨.exit 2,⟨[(3,.p 2 0),(4,.p 3 0),(5,.p 4 0),(6,.p 5 0),(8,.i .i64),(9,.ws 62),(10,.ws 63),(11,.fn 108 [.p 4 0]),(12,.i .i64)],q15,64,2,2,2⟩⟩] (lY n) n
def QO(n:Nat):LP Tryz.prog Tryz.f66.ntmps:=cH (c66E n) [altL (Qi n) (K5 n) rfl] 1 (sb (sb (acM [] [3,17,20,23,30] Tryz.f66) 0).body 1) false q39 [] [⟨.ret,q121⟩,⟨.exit 2,⟨[(3,.p 2 0),(4,.p 3 0),(5,.p 4 0),(6,.p 5 0),(8,.i .i64),(9,.ws 0),(10,.ws 1),(11,.fn 108 [.p 4 0]),(12,.i .i64)],q18,62,2,2,2⟩⟩] (ci n) n
def Xj(n:Nat):LP Tryz.prog Tryz.f66.ntmps:=cH (c66E n) [altL (VG n) (QO n) rfl] 0 (sb (acM [] [3,17,20,23,30] Tryz.f66) 0) false ⟨[(3,.p 2 0),(4,.p 3 0),(5,.p 4 0),(6,.p 5 0),(8,.i .i64),(9,.ws 62),(10,.ws 63),(11,.fn 108 [.p 4 0]),(12,.i .i64),(13,.b)],q15,64,2,2,2⟩ [] [⟨.ret,q120⟩,⟨.exit 0,⟨[(6,.p 5 0)],q47,64,2,2,2⟩⟩] (mr n) n
def Us(n:Nat):LP Tryz.prog Tryz.f66.ntmps:=cH (c66E n) [altL (VG n) (QO n) rfl] 0 (sb (acM [] [3,17,20,23,30] Tryz.f66) 0) false ⟨[(3,.p 2 0),(4,.p 3 0),(5,.p 4 0),(6,.p 5 0),(8,.i .i64),(9,.ws 0),(10,.ws 1),(11,.fn 108 [.p 4 0]),(12,.i .i64),(13,.b)],q18,62,2,2,2⟩ [] [⟨.ret,q121⟩,⟨.exit 0,⟨[(6,.p 5 0)],q47,62,2,2,2⟩⟩] (cT n) n
def c66(n:Nat):FF Tryz.prog 66 [.ag q38,.ag [.i .i64,.i .i64,.i .i64],.b] q109 2 2 [⟨.tp [.ag [.i .i64,.i .i64,.i .i64],.b],[],[],false⟩]:=funC Tryz.func66 Tryz.call66 (c66E n) [WA n,altL (Xj n) (Us n) rfl] [] [3,17,20,23,30] [0,1] (iW n)
def c39(n:Nat):PF Tryz.prog 39 q87 (.i .i64):=aJ Tryz.func39 Tryz.call39 [(c64 n).e,(c65 n).e,(c66 n).e] [] [] [] (bn n)
def c47(n:Nat):FF Tryz.prog 47 [.p 0 0] q84 0 1 [⟨.it 65 (.ag [.i .i64,.i .i64]),q52,[],true⟩,⟨.tp [.ag q19,.i .i64],q52,[],false⟩]:=funC Tryz.func47 Tryz.call47 [(c77 n).e,(c39 n).e,(c45 n).e] [] [] [] [0] (iw n)
def c25E(n:Nat):List (FE Tryz.prog):=[(c23 n).e,(c42 n).e,(c46 n).e,(c45 n).e]
def Xl(n:Nat):LP Tryz.prog Tryz.f25.ntmps:=cH (c25E n) [] 0 (sb (acM [] [] Tryz.f25) 0) false ⟨[(0,.p 0 0),(1,.s),(4,.i .i64),(5,.s)],q52,1,1,0,1⟩ [] [⟨.exit 0,⟨[(0,.p 0 0),(4,.i .i64)],q52,1,1,0,1⟩⟩] (dX n) n
def c25(n:Nat):FF Tryz.prog 25 [.p 0 0,.s] q84 0 1 [⟨.tp [],q52,[],false⟩,⟨.it 65 (.ag [.i .i64,.i .i64]),q52,[],true⟩]:=funC Tryz.func25 Tryz.call25 (c25E n) [Xl n] [] [] [0] (bW n)
def c49(n:Nat):FF Tryz.prog 49 [.ws 0] q113 1 1 [⟨.rs 21 0 0 .q (some .q),[],[],false⟩]:=funC Tryz.func49 Tryz.call49 [] [] [] [] [0] (bA n)
def c38(n:Nat):FF Tryz.prog 38 [.ag q25] q113 1 1 [⟨.b,[],[],false⟩]:=funC Tryz.func38 Tryz.call38 [] [] [] [] [0] (od n)
def c82(n:Nat):PF Tryz.prog 82 q87 (.b):=aJ Tryz.func82 Tryz.call82 [(c141 n).e] [] [] [] (eT n)
def c86(n:Nat):PF Tryz.prog 86 q87 (.b):=aJ Tryz.func86 Tryz.call86 [(c82 n).e] [] [] [] (mq n)
def c51(n:Nat):PF Tryz.prog 51 [.ag q48] (.i .i64):=aJ Tryz.func51 Tryz.call51 [(c39 n).e,(c86 n).e] [] [] [] (jm n)
def c113(n:Nat):FF Tryz.prog 113 [] [] 0 0 [⟨.mp 0,[(0,.mp .u8 [(0,161),(1,162),(2,166),(3,169)])],[0],false⟩]:=funC Tryz.func113 Tryz.call113 [] [] [] [] [] (jc n)
def c114(n:Nat):PF Tryz.prog 114 q87 (.i .u8):=aJ Tryz.func114 Tryz.call114 [(c79 n).e] [] [] [] (be n)
def c161(n:Nat):FF Tryz.prog 161 [.i .i64,.ws 0] q92 1 1 [⟨.ag q63,[],[],false⟩]:=funC Tryz.func161 Tryz.call161 [(c153 n).e] [] [] [] [0] (gz n)
def c164(n:Nat):PF Tryz.prog 164 [.i .i64] (.tp [.i .i64,.i .i64]):=aJ Tryz.func164 Tryz.call164 [(c209 n).e,(c210 n).e] [] [] [] (ue n)
def c211(n:Nat):PF Tryz.prog 211 [.i .i64] (.ag [.i .i8,.i .i64]):=aJ Tryz.func211 Tryz.call211 [] [] [] [] (EZ n)
def c165(n:Nat):PF Tryz.prog 165 [.i .i64,.i .i64] (.ag q63):=aJ Tryz.func165 Tryz.call165 [(c211 n).e] [] [] [] (ru n)
def c162(n:Nat):FF Tryz.prog 162 [.i .i64,.ws 0] q92 1 1 [⟨.ag q63,[],[],false⟩]:=funC Tryz.func162 Tryz.call162 [(c163 n).e,(c164 n).e,(c165 n).e] [] [] [] [0] (gF n)
def c166(n:Nat):FF Tryz.prog 166 [.i .i64,.ws 0] q92 1 1 [⟨.ag q63,[],[],false⟩]:=funC Tryz.func166 Tryz.call166 [(c167 n).e,(c168 n).e,(c165 n).e] [] [] [] [0] (gB n)
def c212(n:Nat):PF Tryz.prog 212 [.ag [.i .i64,.i .i64,.i .i64]] (.i .i64):=aJ Tryz.func212 Tryz.call212 [(c157 n).e] [] [] [] (qJ n)
def c170(n:Nat):PF Tryz.prog 170 [.ag [.i .i64,.i .i64,.i .i64]] (.tp [.i .i64,.i .i64]):=aJ Tryz.func170 Tryz.call170 [(c212 n).e,(c167 n).e] [] [] [] (rH n)
def c169(n:Nat):FF Tryz.prog 169 [.i .i64,.ws 0] q92 1 1 [⟨.ag q63,[],[],false⟩]:=funC Tryz.func169 Tryz.call169 [(c170 n).e,(c165 n).e] [] [] [] [0] (gp n)
def c67(n:Nat):PF Tryz.prog 67 q87 (.tp [.ag q63,.i .i64]):=aJ Tryz.func67 Tryz.call67 [(c39 n).e,(c86 n).e,(c111 n).e,(c112 n),(c113 n).e,(c114 n).e,(c161 n).e,(c162 n).e,(c166 n).e,(c169 n).e] [] [] [] (gC n)
def c171(n:Nat):PF Tryz.prog 171 [.i .i8] (.b):=aJ Tryz.func171 Tryz.call171 [] [] [] [] (n7 n)
def c116(n:Nat):PF Tryz.prog 116 [.i .i8,.i .i8] (.i .i64):=aJ Tryz.func116 Tryz.call116 [(c171 n).e] [] [] [] (mD n)
def c172(n:Nat):PF Tryz.prog 172 [.i .i64] (.b):=aJ Tryz.func172 Tryz.call172 [] [] [] [] (kW n)
def c117(n:Nat):PF Tryz.prog 117 [.i .i64,.i .i64] (.i .i64):=aJ Tryz.func117 Tryz.call117 [(c172 n).e] [] [] [] (jw n)
def Vm(n:Nat):LP Tryz.prog Tryz.f115.ntmps:=cH [] [] 0 (sb (acM [] [] Tryz.f115) 0) false ⟨[(3,.i .i64),(6,.ws 0),(7,.i .i64),(8,.i .i64)],q75,1,1,1,1⟩ [] [⟨.ret,⟨[(2,.i .i64)],[],1,1,1,1⟩⟩,⟨.exit 0,⟨[(3,.i .i64)],[],1,1,1,1⟩⟩] (tH n) n
def c115(n:Nat):FF Tryz.prog 115 [.ws 0] q92 1 1 [⟨.i .i64,[],[],false⟩]:=funC Tryz.func115 Tryz.call115 [] [Vm n] [] [] [0] (ov n)
def c68(n:Nat):PF Tryz.prog 68 [.ag [.i .i8,.i .i64],.ag [.i .i8,.i .i64]] (.i .i64):=aJ Tryz.func68 Tryz.call68 [(c116 n).e,(c117 n).e,(c115 n).e] [] [] [] (kn n)
def c40(n:Nat):PF Tryz.prog 40 [.ag q48,.ag q48] (.i .i64):=aJ Tryz.func40 Tryz.call40 [(c51 n).e,(c67 n).e,(c68 n).e] [] [0] [] (gv n)
def c118(n:Nat):FF Tryz.prog 118 [.p 0 0] [.cells q24] 1 1 [⟨.b,[],[],false⟩]:=funC Tryz.func118 Tryz.call118 [] [] [] [] [0] (qh n)
def c122(n:Nat):PF Tryz.prog 122 [.ag q34] (.b):=aJ Tryz.func122 Tryz.call122 [(c82 n).e] [] [] [] (nB n)
def c123(n:Nat):PF Tryz.prog 123 [.ag q34] (.b):=aJ Tryz.func123 Tryz.call123 [(c39 n).e,(c122 n).e,(c114 n).e] [] [] [] (lL n)
def c120(n:Nat):PF Tryz.prog 120 [.ag q34,.ag q34] (.b):=aJ Tryz.func120 Tryz.call120 [(c123 n).e,(c114 n).e,(c67 n).e,(c68 n).e] [] [] [] (mP n)
def c119(n:Nat):FF Tryz.prog 119 [.p 0 0] [.cells q24] 1 1 [⟨.b,[],[],false⟩]:=funC Tryz.func119 Tryz.call119 [(c120 n).e] [] [] [] [0] (qF n)
def c121(n:Nat):FF Tryz.prog 121 q119 [.cells [.i .u8],.cells q24] 2 2 [⟨.b,[],[],false⟩]:=funC Tryz.func121 Tryz.call121 [(c122 n).e] [] [] [] [0,1] (qZ n)
def c69(n:Nat):FF Tryz.prog 69 [.sl 0 0 3 (some (.k 3))] [.cells [.i .i64,.fn 118 [.p 1 0],.i .i64,.fn 119 [.p 1 0],.i .i64,.fn 121 [.p 2 0,.p 1 0]],.cells q24,.cells [.i .u8]] 3 3 [⟨.i .i64,[],[],false⟩]:=funC Tryz.func69 Tryz.call69 [(c118 n).e,(c119 n).e,(c121 n).e] [] [0] [] [0,1,2] (eu n)
def c70(n:Nat):PF Tryz.prog 70 [.ag q24,.i .u8] (.i .i64):=aJ Tryz.func70 Tryz.call70 [(c39 n).e,(c69 n).e] [] [] [] (fX n)
def c71(n:Nat):FF Tryz.prog 71 q119 [.cells q24,.cells q55,.rows q11] 3 3 [⟨.b,[],[],false⟩]:=funC Tryz.func71 Tryz.call71 [(c70 n).e] [] [] [] [0,1,2] (qY n)
def c73(n:Nat):PF Tryz.prog 73 [.ag q24] (.b):=aJ Tryz.func73 Tryz.call73 [(c123 n).e] [] [] [] (nu n)
def c72(n:Nat):FF Tryz.prog 72 [.p 0 0,.p 1 0,.p 2 0] [.cells [.i .u8,.bd,.b,.s,.i .i64,.i .i64,.s,.s,.i .u8,.i .u8,.i .u8,.i .u8,.bd,.b,.s,.i .i64,.i .i64,.s,.s,.i .u8,.i .u8,.i .u8,.i .u8,.bd,.b,.s,.i .i64,.i .i64,.s,.s,.i .u8,.i .u8,.i .u8,.rs 21 3 0 .q (some .q),.b,.b],.cells [.i .i64],.cells q24,.rows q11] 4 4 [⟨.b,[],[],false⟩]:=funC Tryz.func72 Tryz.call72 [(c73 n).e] [] [] [] [0,1,2,3] (qS n)
def c74(n:Nat):FF Tryz.prog 74 [.p 0 0,.p 1 0,.p 2 0,.p 3 0] [.cells [.i .u8,.bd,.b,.s,.i .i64,.i .i64,.s,.s,.i .u8,.i .u8,.i .u8,.i .u8,.bd,.b,.s,.i .i64,.i .i64,.s,.s,.i .u8,.i .u8,.i .u8,.i .u8,.bd,.b,.s,.i .i64,.i .i64,.s,.s,.i .u8,.i .u8,.i .u8,.rs 21 4 0 .q (some .q),.b,.b],.cells [.i .i64],.cells [.i .i64],.cells q24,.rows q11] 5 5 [⟨.b,[],[],false⟩]:=funC Tryz.func74 Tryz.call74 [(c73 n).e] [] [] [] [0,1,2,3,4] (qk n)
def c75(n:Nat):FF Tryz.prog 75 q119 [.cells q55,.cells [.i .i64],.rows q11] 3 3 [⟨.b,[],[],false⟩]:=funC Tryz.func75 Tryz.call75 [] [] [] [] [0,1,2] (qg n)
def WM(n:Nat):FF Tryz.prog 69 [.sl 0 0 4 (some (.k 4))] [.cells [.i .i64,.fn 71 [.p 1 0,.p 2 0],.i .i64,.fn 72 [.p 2 0,.p 3 0,.p 1 0],.i .i64,.fn 74 [.p 2 0,.p 3 0,.p 4 0,.p 1 0],.i .i64,.fn 75 [.p 2 0,.p 4 0]],.cells q24,.cells [.i .u8,.bd,.b,.s,.i .i64,.i .i64,.s,.s,.i .u8,.i .u8,.i .u8,.i .u8,.bd,.b,.s,.i .i64,.i .i64,.s,.s,.i .u8,.i .u8,.i .u8,.i .u8,.bd,.b,.s,.i .i64,.i .i64,.s,.s,.i .u8,.i .u8,.i .u8,.rs 21 5 0 .q (some .q),.b,.b],.cells [.i .i64],.cells [.i .i64],.rows q11] 6 6 [⟨.i .i64,[],[],false⟩]:=funC Tryz.func69 Tryz.call69 [(c71 n).e,(c72 n).e,(c74 n).e,(c75 n).e] [] [0] [] [0,1,2,3,4,5] (mE n)
def c41E(n:Nat):List (FE Tryz.prog):=[(c70 n).e,(WM n).e]
def XE(n:Nat):LP Tryz.prog Tryz.f41.ntmps:=cH (c41E n) [] 0 (sb (acM [] [] Tryz.f41) 0) true ⟨[(1,.p 1 0),(4,.p 2 0),(13,.rs 21 0 0 .q (some .q)),(14,.i .i64),(15,.i .i64)],[(0,.rows q11),(1,.cells q25),(2,.cells [.i .i64])],3,1,1,1⟩ [] q99 (jX n) n
def c41(n:Nat):FF Tryz.prog 41 [.ag q25] q113 1 1 [⟨.tp [.i .i64,.i .i64],[],[],false⟩]:=funC Tryz.func41 Tryz.call41 (c41E n) [XE n] [] [] [0] (mW n)
def c18(n:Nat):FF Tryz.prog 18 [.ag q25] q113 1 1 [⟨.tp [.i .i64,.i .i64],[],[],false⟩]:=funC Tryz.func18 Tryz.call18 [(c38 n).e,(c39 n).e,(c40 n).e,(c41 n).e] [] [] [] [0] (gj n)
def c21E(n:Nat):List (FE Tryz.prog):=[(c43 n).e,(c44 n).e,(c23 n).e,(c46 n).e,(c45 n).e,(c47 n).e,(c48 n).e,(c25 n).e,(c49 n).e,(c18 n).e]
def WP(n:Nat):LP Tryz.prog Tryz.f21.ntmps:=eo (c21E n) [] 1003 (sb (acM [] [3,16,17] Tryz.f21) 1003) true ⟨[(0,.p 0 0),(2,.p 1 0),(3,.p 2 0),(15,.b)],[(0,.cells q33),(1,.cells q13),(2,.cells [.ik .u8 3,.bk false,.bk false,.sk [],.ik .i64 0,.ik .i64 0,.sk [],.sk [],.ik .u8 0,.ik .u8 0,.ik .u8 0,.ik .u8 0,.bk false,.bk false,.sk [],.ik .i64 0,.ik .i64 0,.sk [],.sk [],.ik .u8 0,.ik .u8 0,.ik .u8 0,.ik .u8 0,.bk false,.bk false,.sk [],.ik .i64 0,.ik .i64 0,.sk [],.sk [],.ik .u8 0,.ik .u8 0,.ik .u8 0,.ws 4,.bk false,.bk false]),(3,.rows q11),(4,.rows q11)],5,1,0,1⟩ [⟨.nrm,⟨[(0,.p 0 0),(2,.p 1 0),(3,.p 2 0)],[(0,.cells q33),(1,.cells q13),(2,.cells [.i .u8,.bk false,.bk false,.sk [],.ik .i64 0,.ik .i64 0,.sk [],.sk [],.ik .u8 0,.ik .u8 0,.ik .u8 0,.ik .u8 0,.bk false,.bk false,.sk [],.ik .i64 0,.ik .i64 0,.sk [],.sk [],.ik .u8 0,.ik .u8 0,.ik .u8 0,.ik .u8 0,.bk false,.bk false,.sk [],.ik .i64 0,.ik .i64 0,.sk [],.sk [],.ik .u8 0,.ik .u8 0,.ik .u8 0,.ws 4,.bk false,.bk false]),(3,.rows q11),(4,.rows q11)],5,1,0,1⟩⟩] (m9 n)
def UN(n:Nat):LP Tryz.prog Tryz.f21.ntmps:=eo (c21E n) [] 1016 (sb (sb (acM [] [3,16,17] Tryz.f21) 0).body 1016) true ⟨q98,q36,7,1,0,1⟩ [⟨.nrm,q86⟩] (lT n)
def VK(n:Nat):LP Tryz.prog Tryz.f21.ntmps:=eo (c21E n) [] 1017 (sb (sb (acM [] [3,16,17] Tryz.f21) 0).body 1017) true q86 [⟨.pan (.it 65 (.ag [.i .i64,.i .i64])),⟨[],q52,1,1,0,1⟩⟩,⟨.nrm,⟨q98,[(0,.cells q33),(1,.cells q20),(2,.cells q27),(3,.rows [.i .i64]),(4,.cells q24),(5,.rows q11),(6,.rows q11)],7,1,0,1⟩⟩] (lO n)
def W9(n:Nat):LP Tryz.prog Tryz.f21.ntmps:=cH (c21E n) [UN n,VK n] 0 (sb (acM [] [3,16,17] Tryz.f21) 0) true ⟨q118,[(0,.cells q33),(1,.cells q21),(2,.cells q45),(3,.rows [.i .i64]),(4,.rows q11),(5,.rows q11)],6,1,0,1⟩ [.nilT 6 1000 [.i .i64]] [⟨.pan (.it 65 (.ag [.i .i64,.i .i64])),⟨[],q52,1,1,0,1⟩⟩,⟨.exit 0,⟨q118,[(0,.cells q33),(1,.cells [.i .u8,.bd,.b,.s,.i .i64,.i .i64,.s,.s,.i .u8,.i .u8,.i .u8,.i .u8,.bd,.b,.s,.i .i64,.i .i64,.s,.s,.i .u8,.i .u8,.i .u8,.i .u8,.bd,.b,.s,.i .i64,.i .i64,.s,.s,.i .u8,.i .u8,.i .u8,.ws 4,.b,.b]),(2,.cells q61),(3,.rows [.i .i64]),(4,.rows q11),(5,.rows q11)],6,1,0,1⟩⟩] (fb n) n
def c21(n:Nat):FF Tryz.prog 21 [.p 0 0] q84 0 1 [⟨.it 65 (.ag [.i .i64,.i .i64]),q52,[],true⟩,⟨.ag [.i .u8,.bd,.b,.s,.i .i64,.i .i64,.s,.s,.i .u8,.i .u8,.i .u8,.i .u8,.bd,.b,.s,.i .i64,.i .i64,.s,.s,.i .u8,.i .u8,.i .u8,.i .u8,.bd,.b,.s,.i .i64,.i .i64,.s,.s,.i .u8,.i .u8,.i .u8,.rs 21 1 0 .q (some .q),.b,.b],[(0,.cells q33),(1,.rows q11)],[1],false⟩]:=funC Tryz.func21 Tryz.call21 (c21E n) [WP n,W9 n] [] [3,16,17] [0] (nr n)
def c22(n:Nat):FF Tryz.prog 22 [.p 2 0,.i .i64] [.cells q33,.rows q11,.cells q53] 2 3 [⟨.tp [],[(2,.cells q53)],[],false⟩]:=funC Tryz.func22 Tryz.call22 [nilF] [] [] [] [2,0,1] (fw n)
def Ug(n:Nat):FF Tryz.prog 22 [.p 1 0,.i .i64] [.cells q33,.cells q56] 1 2 [⟨.tp [],[(1,.cells q56)],[],false⟩]:=funC Tryz.func22 Tryz.call22 [nilF] [] [] [] [1,0] (ct n)
def PM(_n:Nat):Ent:=Qm 80
theorem J4(n:Nat):gg Tryz.prog (PM n):=JV Tryz.call80 λs c w h1 h2 h3=>Tryz.strings_TrimRight_laid s c w h1 h2 h3
def c80(n:Nat):FE Tryz.prog:=libF (J4 n)
def U6(n:Nat):PF Tryz.prog 134 [.s,.sk [45]] (.b):=aJ Tryz.func134 Tryz.call134 [] [] [] [] (fk n)
def c140(n:Nat):PF Tryz.prog 140 [.s,.sk [45]] (.s):=aJ Tryz.func140 Tryz.call140 [(U6 n).e] [] [] [] (fU n)
def c81(n:Nat):PF Tryz.prog 81 [.s,.sk [45]] (.s):=aJ Tryz.func81 Tryz.call81 [(c140 n).e] [] [] [] (iV n)
end
end Go.Sh
