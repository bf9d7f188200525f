import Derived.Test.YtjkmipianfkncaaGreatDoorAbsPat
import Derived.Test.YtjkmipianfkncaaGreatDoorHGa
import Derived.Test.YtjkmipianfkncaaGreatDoorHGb
import Derived.Test.YtjkmipianfkncaaGreatDoorHGe
set_option linter.unusedVariables false
set_option linter.unusedSimpArgs false
set_option maxRecDepth 100000
set_option maxHeartbeats 4000000
namespace Go.Sh
open Go.Abs Go.Proofs
noncomputable section
abbrev q33:List PV:=[.s,.i .i64]
abbrev q83:List PB:=[.cells q33]
abbrev q52:List (Nat×PB):=[(0,.cells q33)]
abbrev q82:List (Nat×PV):=[(4,.i .i64)]
abbrev q113:List PX:=[⟨.ret,⟨q82,[],1,1,1,1⟩⟩,⟨.exit 0,⟨[],[],1,1,1,1⟩⟩]
abbrev q103:List (Nat×PB):=[(1,.cells q33)]
abbrev q41:List PV:=[.b,.b,.s,.i .i64,.i .i64]
abbrev q116:List PV:=[.p 0 0,.p 1 0]
abbrev q19:List PV:=[.b,.b,.s,.i .i64,.i .i64,.s,.s,.i .u8,.i .u8,.i .u8]
abbrev q114:List PX:=[⟨.ret,⟨q82,[],1,0,0,0⟩⟩,⟨.exit 0,⟨[],[],1,0,0,0⟩⟩]
abbrev q92:List PB:=[.cells [.fn 128 [.p 1 0]],.cells [.fn 1000127 [.p 3 0]],.cells q19,.cells q33]
abbrev q89:List (Nat×PB):=[(2,.cells q19),(3,.cells q33)]
abbrev q86:List PV:=[.ag q19]
abbrev q111:List (Nat×PV):=[(0,.s),(7,.s),(8,.i .i64),(9,.i .i64),(12,.i .i64)]
abbrev q112:PSt:=⟨q82,[],0,0,0,0⟩
abbrev q98:PSt:=⟨[],[],0,0,0,0⟩
abbrev q63:List PV:=[.i .i8,.i .i64,.i .i8,.i .i64]
abbrev q120:PSt:=⟨[(0,.s),(1,.i .i64),(5,.i .i64)],[],0,0,0,0⟩
abbrev q75:List (Nat×PB):=[(0,.rows [.i .i64])]
abbrev q38:List PV:=[.b,.b,.s,.i .i64,.i .i64,.s,.s,.i .u8,.i .u8,.i .u8,.ws 0,.ws 1]
abbrev q90:List PB:=[.rows [.i .i64]]
abbrev q99:PSt:=⟨[(2,.i .i64)],[],1,0,0,0⟩
abbrev q70:PSt:=⟨[(0,.s),(1,.i .i64),(2,.b),(8,.i .u8),(9,.i .u8),(10,.p 0 0),(11,.p 1 0),(12,.i .i64)],[(0,.ints .u8 18),(1,.ints .u8 18)],2,0,0,0⟩
abbrev q106:List PB:=[.rows [.i .i64],.rows [.i .i64]]
abbrev q67:List (Nat×PB):=[(0,.rows [.i .i64]),(1,.rows [.i .i64]),(2,.cells q38),(3,.cells [.i .i64,.i .i64,.i .i64]),(4,.cells [.b]),(5,.cells [.ik .i64 0,.ik .i64 0,.ik .i64 0])]
abbrev q15:List (Nat×PB):=[(0,.rows [.i .i64]),(1,.rows [.i .i64]),(2,.cells q38),(3,.cells [.i .i64,.i .i64,.i .i64]),(4,.cells [.b]),(5,.cells [.i .i64,.i .i64,.i .i64]),(62,.rows [.i .i64]),(63,.rows [.i .i64])]
abbrev q18:List (Nat×PB):=[(0,.rows [.i .i64]),(1,.rows [.i .i64]),(2,.cells q38),(3,.cells [.i .i64,.i .i64,.i .i64]),(4,.cells [.b]),(5,.cells [.i .i64,.i .i64,.i .i64])]
abbrev q58:PSt:=⟨[(3,.p 2 0),(4,.p 3 0),(5,.p 4 0),(6,.p 5 0),(8,.i .i64),(9,.ws 62),(10,.ws 63),(11,.fn 108 [.p 4 0]),(12,.i .i64),(15,.i .i64),(16,.b),(17,.i .i64),(53,.ws 62),(54,.i .i64),(55,.i .i64)],q15,64,2,2,2⟩
abbrev q59:PSt:=⟨[(3,.p 2 0),(4,.p 3 0),(5,.p 4 0),(6,.p 5 0),(8,.i .i64),(9,.ws 0),(10,.ws 1),(11,.fn 108 [.p 4 0]),(12,.i .i64),(15,.i .i64),(16,.b),(17,.i .i64),(53,.ws 0),(54,.i .i64),(55,.i .i64)],q18,62,2,2,2⟩
abbrev q78:List (Nat×PV):=[(6,.p 5 0),(7,.b)]
abbrev q47:List (Nat×PB):=[(5,.cells [.i .i64,.i .i64,.i .i64])]
abbrev q117:PSt:=⟨q78,q47,64,2,2,2⟩
abbrev q37:PSt:=⟨[(3,.p 2 0),(4,.p 3 0),(5,.p 4 0),(6,.p 5 0),(8,.i .i64),(9,.ws 62),(10,.ws 63),(11,.fn 108 [.p 4 0]),(12,.i .i64),(53,.ws 62),(54,.i .i64),(55,.i .i64)],q15,64,2,2,2⟩
abbrev q118:PSt:=⟨q78,q47,62,2,2,2⟩
abbrev q39:PSt:=⟨[(3,.p 2 0),(4,.p 3 0),(5,.p 4 0),(6,.p 5 0),(8,.i .i64),(9,.ws 0),(10,.ws 1),(11,.fn 108 [.p 4 0]),(12,.i .i64),(53,.ws 0),(54,.i .i64),(55,.i .i64)],q18,62,2,2,2⟩
abbrev q11:List Lf:=[.bo,.bo,.s,.i .i64,.i .i64,.s,.s,.i .u8,.i .u8,.i .u8,.bo,.bo,.bo,.s,.i .i64,.i .i64,.s,.s,.i .u8,.i .u8,.i .u8]
abbrev q110:List PB:=[.rows q11]
abbrev q25:List PV:=[.i .u8,.bd,.b,.s,.i .i64,.i .i64,.s,.s,.i .u8,.i .u8,.i .u8,.i .u8,.bd,.b,.s,.i .i64,.i .i64,.s,.s,.i .u8,.i .u8,.i .u8,.i .u8,.bd,.b,.s,.i .i64,.i .i64,.s,.s,.i .u8,.i .u8,.i .u8,.rs 21 0 0 .q (some .q),.b,.b]
abbrev q48:List PV:=[.i .u8,.b,.b,.s,.i .i64,.i .i64,.s,.s,.i .u8,.i .u8,.i .u8]
abbrev q24:List PV:=[.bd,.b,.s,.i .i64,.i .i64,.s,.s,.i .u8,.i .u8,.i .u8,.b,.bd,.b,.s,.i .i64,.i .i64,.s,.s,.i .u8,.i .u8,.i .u8]
abbrev q34:List PV:=[.bd,.b,.s,.i .i64,.i .i64,.s,.s,.i .u8,.i .u8,.i .u8]
abbrev q55:List PV:=[.i .u8,.bd,.b,.s,.i .i64,.i .i64,.s,.s,.i .u8,.i .u8,.i .u8,.i .u8,.bd,.b,.s,.i .i64,.i .i64,.s,.s,.i .u8,.i .u8,.i .u8,.i .u8,.bd,.b,.s,.i .i64,.i .i64,.s,.s,.i .u8,.i .u8,.i .u8,.rs 21 2 0 .q (some .q),.b,.b]
abbrev q96:List PX:=[⟨.ret,⟨[(2,.i .i64),(3,.i .i64)],[],1,1,1,1⟩⟩,⟨.exit 0,⟨[],[],1,1,1,1⟩⟩]
abbrev q13:List PV:=[.ik .u8 0,.bk false,.bk false,.sk [],.ik .i64 0,.ik .i64 0,.sk [],.sk [],.ik .u8 0,.ik .u8 0,.ik .u8 0,.ik .u8 0,.bk false,.bk false,.sk [],.ik .i64 0,.ik .i64 0,.sk [],.sk [],.ik .u8 0,.ik .u8 0,.ik .u8 0,.ik .u8 0,.bk false,.bk false,.sk [],.ik .i64 0,.ik .i64 0,.sk [],.sk [],.ik .u8 0,.ik .u8 0,.ik .u8 0,.ws 3,.bk false,.bk false]
abbrev q95:List (Nat×PV):=[(0,.p 0 0),(2,.p 1 0),(3,.p 2 0),(5,.s),(6,.ws 3),(7,.p 4 0),(9,.i .i64)]
abbrev q20:List PV:=[.ik .u8 0,.bk false,.bk false,.sk [],.ik .i64 0,.ik .i64 0,.sk [],.sk [],.ik .u8 0,.ik .u8 0,.ik .u8 0,.ik .u8 0,.bk false,.bk false,.sk [],.ik .i64 0,.ik .i64 0,.sk [],.sk [],.ik .u8 0,.ik .u8 0,.ik .u8 0,.ik .u8 0,.bk false,.bk false,.sk [],.ik .i64 0,.ik .i64 0,.sk [],.sk [],.ik .u8 0,.ik .u8 0,.ik .u8 0,.ws 5,.bk false,.bk false]
abbrev q27:List PV:=[.i .u8,.bk false,.bk false,.sk [],.ik .i64 0,.ik .i64 0,.sk [],.sk [],.ik .u8 0,.ik .u8 0,.ik .u8 0,.ik .u8 0,.bk false,.bk false,.sk [],.ik .i64 0,.ik .i64 0,.sk [],.sk [],.ik .u8 0,.ik .u8 0,.ik .u8 0,.ik .u8 0,.bk false,.bk false,.sk [],.ik .i64 0,.ik .i64 0,.sk [],.sk [],.ik .u8 0,.ik .u8 0,.ik .u8 0,.ws 6,.b,.bk false]
abbrev q66:List PV:=[.bd,.b,.s,.i .i64,.i .i64,.s,.s,.i .u8,.i .u8,.i .u8,.bk false,.bk false,.bk false,.sk [],.ik .i64 0,.ik .i64 0,.sk [],.sk [],.ik .u8 0,.ik .u8 0,.ik .u8 0]
abbrev q36:List (Nat×PB):=[(0,.cells q33),(1,.cells q20),(2,.cells q27),(3,.rows [.i .i64]),(4,.cells q66),(5,.rows q11),(6,.rows q11)]
abbrev q85:PSt:=⟨[(0,.p 0 0),(2,.p 1 0),(3,.p 2 0),(5,.s),(6,.ws 3),(7,.p 4 0),(9,.i .i64),(49,.b)],q36,7,1,0,1⟩
abbrev q115:List (Nat×PV):=[(0,.p 0 0),(2,.p 1 0),(3,.p 2 0),(5,.s),(6,.ws 3)]
abbrev q21:List PV:=[.ik .u8 0,.bk false,.bk false,.sk [],.ik .i64 0,.ik .i64 0,.sk [],.sk [],.ik .u8 0,.ik .u8 0,.ik .u8 0,.ik .u8 0,.bk false,.bk false,.sk [],.ik .i64 0,.ik .i64 0,.sk [],.sk [],.ik .u8 0,.ik .u8 0,.ik .u8 0,.ik .u8 0,.bk false,.bk false,.sk [],.ik .i64 0,.ik .i64 0,.sk [],.sk [],.ik .u8 0,.ik .u8 0,.ik .u8 0,.ws 4,.bk false,.bk false]
abbrev q45:List PV:=[.i .u8,.bk false,.bk false,.sk [],.ik .i64 0,.ik .i64 0,.sk [],.sk [],.ik .u8 0,.ik .u8 0,.ik .u8 0,.ik .u8 0,.bk false,.bk false,.sk [],.ik .i64 0,.ik .i64 0,.sk [],.sk [],.ik .u8 0,.ik .u8 0,.ik .u8 0,.ik .u8 0,.bk false,.bk false,.sk [],.ik .i64 0,.ik .i64 0,.sk [],.sk [],.ik .u8 0,.ik .u8 0,.ik .u8 0,.ws 5,.b,.bk false]
abbrev q61:List PV:=[.i .u8,.bd,.b,.s,.i .i64,.i .i64,.s,.s,.i .u8,.i .u8,.i .u8,.i .u8,.bd,.b,.s,.i .i64,.i .i64,.s,.s,.i .u8,.i .u8,.i .u8,.i .u8,.bd,.b,.s,.i .i64,.i .i64,.s,.s,.i .u8,.i .u8,.i .u8,.ws 5,.b,.b]
abbrev q53:List PV:=[.p 0 0,.i .u8,.bd,.b,.s,.i .i64,.i .i64,.s,.s,.i .u8,.i .u8,.i .u8,.i .u8,.bd,.b,.s,.i .i64,.i .i64,.s,.s,.i .u8,.i .u8,.i .u8,.i .u8,.bd,.b,.s,.i .i64,.i .i64,.s,.s,.i .u8,.i .u8,.i .u8,.rs 21 1 0 .q (some .q),.b,.b,.i .i64]
abbrev q56:List PV:=[.p 0 0,.i .u8,.bd,.b,.s,.i .i64,.i .i64,.s,.s,.i .u8,.i .u8,.i .u8,.i .u8,.bd,.b,.s,.i .i64,.i .i64,.s,.s,.i .u8,.i .u8,.i .u8,.i .u8,.bd,.b,.s,.i .i64,.i .i64,.s,.s,.i .u8,.i .u8,.i .u8,.sn,.b,.b,.i .i64]
def c42(n:Nat):FF Tryz.prog 42 [.p 0 0] q83 1 1 [⟨.s,[],[],false⟩]:=funC Tryz.func42 Tryz.call42 [] [] [] [] [0] (cn n)
def c20(n:Nat):FF Tryz.prog 20 [.p 0 0] q83 1 1 [⟨.tp [.i .u8,.b],[],[],false⟩]:=funC Tryz.func20 Tryz.call20 [(c42 n).e] [] [] [] [0] (aY n)
def c46(n:Nat):FF Tryz.prog 46 [.p 0 0] q83 1 1 [⟨.i .i64,[],[],false⟩]:=funC Tryz.func46 Tryz.call46 [] [] [] [] [0] (bz n)
def c45(n:Nat):FF Tryz.prog 45 [.p 0 0,.i .i64,.i .i64] q83 1 1 [⟨.it 65 (.ag [.i .i64,.i .i64]),[],[],true⟩]:=funC Tryz.func45 Tryz.call45 [] [] [] [] [0] (aM n)
def c173(_n:Nat):FE Tryz.prog:=libF (Kr Tryz.func173 (by kernel_rfl) (by kernel_rfl) (by kernel_rfl) (by kernel_rfl))
def c124(n:Nat):PF Tryz.prog 124 [.s,.i .u8] (.i .i64):=aJ Tryz.func124 Tryz.call124 [(c173 n)] [] [] [] (cM n)
def c76(n:Nat):PF Tryz.prog 76 [.s,.i .u8] (.i .i64):=aJ Tryz.func76 Tryz.call76 [(c124 n).e] [] [] [] (cX n)
def c43(n:Nat):FF Tryz.prog 43 [.p 0 0,.s] q83 0 1 [⟨.it 65 (.ag [.i .i64,.i .i64]),q52,[],true⟩,⟨.i .u8,q52,[],false⟩]:=funC Tryz.func43 Tryz.call43 [(c20 n).e,(c46 n).e,(c45 n).e,(c76 n).e] [] [] [] [0] (cb n)
def c44(n:Nat):PF Tryz.prog 44 [.i .u8] (.tp [.s,.s]):=aJ Tryz.func44 Tryz.call44 [] [] [] [] (lj n)
def c134(n:Nat):PF Tryz.prog 134 [.s,.s] (.b):=aJ Tryz.func134 Tryz.call134 [] [] [] [] (fU n)
def c78(n:Nat):PF Tryz.prog 78 [.s,.s] (.b):=aJ Tryz.func78 Tryz.call78 [(c134 n).e] [] [] [] (jb n)
def c48(n:Nat):FF Tryz.prog 48 [.p 0 0,.s] q83 1 1 [⟨.b,[],[],false⟩]:=funC Tryz.func48 Tryz.call48 [(c42 n).e,(c78 n).e] [] [] [] [0] (fg n)
def c23(n:Nat):FF Tryz.prog 23 [.p 0 0,.s] q83 0 1 [⟨.b,q52,[],false⟩]:=funC Tryz.func23 Tryz.call23 [(c48 n).e] [] [] [] [0] (az n)
def c174(n:Nat):PF Tryz.prog 174 [] (.ag [.s,.s,.s,.s]):=aJ Tryz.func174 Tryz.call174 [] [] [] [] (xx n)
def RQ(n:Nat):LP Tryz.prog Tryz.f142.ntmps:=cJ [] [] 0 (sb (acM [] [] Tryz.f142) 0) false ⟨[(0,.sl 0 0 4 (some (.k 4))),(1,.s),(7,.i .i64),(8,.i .i64)],[(0,.cells [.s,.s,.s,.s])],1,1,1,1⟩ [] q113 (ia n) n
def c142(n:Nat):FF Tryz.prog 142 [.sl 0 0 4 (some (.k 4)),.s] [.cells [.s,.s,.s,.s]] 1 1 [⟨.i .i64,[],[],false⟩]:=funC Tryz.func142 Tryz.call142 [] [RQ n] [] [] [0] (jd n)
def c126(n:Nat):PF Tryz.prog 126 [.i .u8] (.tp [.i .u8,.b]):=aJ Tryz.func126 Tryz.call126 [(c174 n).e,(c142 n).e] [] [] [] (mA n)
def c125(n:Nat):FF Tryz.prog 125 [.p 0 0] [.cells [.p 1 0],.cells q33] 1 2 [⟨.it 65 (.ag [.i .i64,.i .i64]),q103,[],true⟩,⟨.i .u8,q103,[],false⟩]:=funC Tryz.func125 Tryz.call125 [(c20 n).e,(c126 n).e,(c43 n).e] [] [] [] [0,1] (co n)
def RJ(n:Nat):List (FE Tryz.prog):=[(c46 n).e,(c20 n).e,(c76 n).e,(c45 n).e]
def TY(n:Nat):LP Tryz.prog Tryz.f127.ntmps:=cJ (RJ n) [] 0 (sb (acM [] [] Tryz.f127) 0) false ⟨[(0,.p 0 0),(1,.s),(2,.i .i64),(3,.i .i64),(9,.i .i64),(10,.i .u8),(11,.b)],q52,1,1,0,1⟩ [] [⟨.exit 0,⟨[(0,.p 0 0),(2,.i .i64),(9,.i .i64)],q52,1,1,0,1⟩⟩] (cK n) n
def c127(n:Nat):FF Tryz.prog 127 [.p 0 0,.s,.i .i64,.i .i64] q83 0 1 [⟨.it 65 (.ag [.i .i64,.i .i64]),q52,[],true⟩,⟨.s,q52,[],false⟩]:=funC Tryz.func127 Tryz.call127 (RJ n) [TY n] [] [] [0] (bO n)
noncomputable def IL(_n:Nat):Ent:=Qu 112 244
theorem Hj(n:Nat):fK Tryz.prog (IL n):=NJ Tryz.call112 (λs n hl h w=>(Tryz.strconv_Atoi s n hl h w).mono λe w' ⟨h1,t,h2⟩=>⟨h1,h2▸pa _ _ _⟩) (λs hl h w hg=>NW s hl h w hg)
def c112(n:Nat):FE Tryz.prog:=libF (Hj n)
def c175(n:Nat):FF Tryz.prog 175 [.s,.p 0 0] [.cells [.p 1 0],.cells q33] 1 2 [⟨.i .i64,q103,[],false⟩,⟨.it 65 (.ag [.i .i64,.i .i64]),q103,[],true⟩]:=funC Tryz.func175 Tryz.call175 [(c23 n).e,(c43 n).e,(c127 n).e,(c112 n)] [] [] [] [0,1] (cP n)
def c130(n:Nat):FF Tryz.prog 130 [.p 0 0] q83 0 1 [⟨.it 65 (.ag [.i .i64,.i .i64]),q52,[],true⟩,⟨.ag q41,q52,[],false⟩]:=funC Tryz.func130 Tryz.call130 [(c23 n).e,(c43 n).e,(c127 n).e,(c175 n).e] [] [] [] [0] (lk n)
def c129(n:Nat):FF Tryz.prog 129 q116 [.cells [.p 2 0],.cells q19,.cells q33] 1 3 [⟨.it 65 (.ag [.i .i64,.i .i64]),[(1,.cells q19),(2,.cells q33)],[],true⟩,⟨.tp [],[(1,.cells q19),(2,.cells q33)],[],false⟩]:=funC Tryz.func129 Tryz.call129 [(c130 n).e] [] [] [] [0,1,2] (jw n)
def c154(n:Nat):PF Tryz.prog 154 [.i .u8] (.i .i64):=aJ Tryz.func154 Tryz.call154 [] [] [] [] (du n)
def Uw(n:Nat):List (FE Tryz.prog):=[(c154 n).e]
def Uh(n:Nat):LP Tryz.prog Tryz.f103.ntmps:=cJ (Uw n) [] 0 (sb (acM [] [] Tryz.f103) 0) false ⟨[(1,.i .i64),(13,.ai .u8 3),(14,.i .i64)],[],1,0,0,0⟩ [] q114 (cG n) n
def c103(n:Nat):PF Tryz.prog 103 [.ai .u8 3,.i .i64] (.i .i64):=aJ Tryz.func103 Tryz.call103 (Uw n) [Uh n] [] [] (bR n)
def c176(n:Nat):FF Tryz.prog 176 [.i .i64,.p 2 0,.p 0 0,.p 1 0] [.ints .u8 3,.ints .u8 3,.cells [.i .u8]] 2 3 [⟨.i .u8,[(2,.cells [.i .u8])],[],false⟩]:=funC Tryz.func176 Tryz.call176 [] [] [] [] [2,0,1] (ru n)
def Ru(n:Nat):List (FE Tryz.prog):=[(c103 n).e,(c176 n).e]
def Sz(n:Nat):LP Tryz.prog Tryz.f133.ntmps:=cJ (Ru n) [] 1 (sb (acM [0] [] Tryz.f133) 1) false ⟨[(6,.p 2 0),(12,.fn 176 [.p 5 0,.p 1 0,.p 0 0]),(13,.p 6 0),(14,.i .i64)],[(0,.ints .u8 3),(1,.ints .u8 3),(2,.ints .u8 3),(5,.cells [.i .u8]),(6,.ints .u8 3)],7,0,0,0⟩ [] [⟨.exit 2,⟨[(6,.p 2 0),(13,.p 6 0)],[(2,.ints .u8 3),(6,.ints .u8 3)],7,0,0,0⟩⟩] (pR n) n
def c133(n:Nat):PF Tryz.prog 133 [.ai .u8 3,.ai .u8 3,.i .i64] (.tp [.ai .u8 3,.i .i64]):=aJ Tryz.func133 Tryz.call133 (Ru n) [Sz n] [0] [] (dV n)
def c128(n:Nat):FF Tryz.prog 128 [.p 0 0] [.cells [.fn 1000127 [.p 1 0]],.cells q33] 1 2 [⟨.it 65 (.ag [.i .i64,.i .i64]),q103,[],true⟩,⟨.s,q103,[],false⟩]:=funC Tryz.func128 Tryz.call128 [(c127 n).e] [] [] [] [0,1] (ib n)
def c131(n:Nat):FF Tryz.prog 131 [.p 0 0,.p 2 0] q92 2 4 [⟨.it 65 (.ag [.i .i64,.i .i64]),q89,[],true⟩,⟨.tp [],q89,[],false⟩]:=funC Tryz.func131 Tryz.call131 [(c128 n).e] [] [] [] [0,2,1,3] (jG n)
def c132(n:Nat):FF Tryz.prog 132 [.p 0 0,.p 2 0] q92 2 4 [⟨.it 65 (.ag [.i .i64,.i .i64]),q89,[],true⟩,⟨.tp [],q89,[],false⟩]:=funC Tryz.func132 Tryz.call132 [(c128 n).e] [] [] [] [0,2,1,3] (jD n)
def c77(n:Nat):FF Tryz.prog 77 [.p 0 0] q83 0 1 [⟨.it 65 (.ag [.i .i64,.i .i64]),q52,[],true⟩,⟨.tp [.ag q19,.ai .i64 3],q52,[],false⟩]:=funC Tryz.func77 Tryz.call77 [(c125 n).e,(c46 n).e,(c129 n).e,(c133 n).e,(c23 n).e,(c131 n).e,(c132 n).e] [] [0] [] [0] (jm n)
def c135(n:Nat):PF Tryz.prog 135 [.i .i64] (.i .i64):=aJ Tryz.func135 Tryz.call135 [] [] [] [] (dn n)
theorem pure_seasons_Check(n:Nat):∀a r,dn n a=some r->kL Tryz.prog 135 (argP [.i .i64] a) (encP (.i .i64) r):=λa r h=>(c135 n).ok a r h
def c79(n:Nat):PF Tryz.prog 79 q86 (.tp [.i .i64,.b]):=aJ Tryz.func79 Tryz.call79 [(c112 n),(c135 n).e] [] [] [] (bH n)
def c219(n:Nat):PF Tryz.prog 219 [.i .i32] (.b):=aJ Tryz.func219 Tryz.call219 [] [] [] [] (dK n)
def JF(n:Nat):List (FE Tryz.prog):=[(c76 n).e,(c219 n).e]
def To(n:Nat):LP Tryz.prog Tryz.f189.ntmps:=cJ (JF n) [] 0 (sb (acM [] [] Tryz.f189) 0) false ⟨[(175,.p 0 0)],[(0,.iter)],1,0,0,0⟩ [] [⟨.ret,⟨q82,[],1,0,0,0⟩⟩,⟨.exit 9,⟨[],[],1,0,0,0⟩⟩] (dC n) n
def TP(n:Nat):LP Tryz.prog Tryz.f189.ntmps:=cJ (JF n) [] 2 (sb (sb (acM [] [] Tryz.f189) 1).body 2) false ⟨q111,[],128,0,0,0⟩ [] [⟨.exit 3,⟨[(8,.i .i64),(9,.i .i64)],[],128,0,0,0⟩⟩] (l8 n) n
def QR(n:Nat):LP Tryz.prog Tryz.f189.ntmps:=cJ (JF n) [] 2 (sb (sb (acM [] [] Tryz.f189) 1).body 2) false ⟨q111,[],56,0,0,0⟩ [] [⟨.exit 3,⟨[(8,.i .i64),(9,.i .i64)],[],56,0,0,0⟩⟩] (lq n) n
def R9(n:Nat):LP Tryz.prog Tryz.f189.ntmps:=cJ (JF n) [altL (TP n) (QR n) rfl] 1 (sb (acM [] [] Tryz.f189) 1) false ⟨[(0,.s),(7,.s),(8,.i .i64),(9,.i .i64)],[],0,0,0,0⟩ [] [⟨.ret,q112⟩,⟨.exit 1,q98⟩] (dD n) n
def c189(n:Nat):PF Tryz.prog 189 [.s,.i .i32] (.i .i64):=aJ Tryz.func189 Tryz.call189 (JF n) [To n,R9 n,noL 3 (sb (acM [] [] Tryz.f189) 3)] [] [] (dL n)
def c179(n:Nat):PF Tryz.prog 179 [.s,.i .i32] (.b):=aJ Tryz.func179 Tryz.call179 [(c189 n).e] [] [] [] (dA n)
def c223(n:Nat):FF Tryz.prog 223 [.i .i32,.p 0 0] [.cells [.s]] 1 1 [⟨.b,[],[],false⟩]:=funC Tryz.func223 Tryz.call223 [(c179 n).e] [] [] [] [0] (jE n)
def UA(n:Nat):List (FE Tryz.prog):=[(c223 n).e]
def Tc(n:Nat):LP Tryz.prog Tryz.f248.ntmps:=cJ (UA n) [] 0 (sb (acM [] [] Tryz.f248) 0) false ⟨[(1,.fn 223 [.p 0 0]),(2,.b),(10,.p 1 0)],[(0,.cells [.s]),(1,.iter)],2,1,1,1⟩ [] [⟨.ret,⟨[(6,.i .i64)],[],2,1,1,1⟩⟩,⟨.exit 0,⟨[],[],2,1,1,1⟩⟩] (cu n) n
def c248(n:Nat):FF Tryz.prog 248 [.s,.fn 223 [.p 0 0],.b] [.cells [.s]] 1 1 [⟨.i .i64,[],[],false⟩]:=funC Tryz.func248 Tryz.call248 (UA n) [Tc n] [] [] [0] (kS n)
def c222(n:Nat):FF Tryz.prog 222 [.s,.fn 223 [.p 0 0]] [.cells [.s]] 1 1 [⟨.i .i64,[],[],false⟩]:=funC Tryz.func222 Tryz.call222 [(c248 n).e] [] [] [] [0] (kZ n)
def c192(n:Nat):PF Tryz.prog 192 [.s,.s] (.b):=aJ Tryz.func192 Tryz.call192 [(c222 n).e] [] [] [] (f9 n)
def SX(n:Nat):LP Tryz.prog Tryz.f136.ntmps:=cJ [] [] 0 (sb (acM [] [] Tryz.f136) 0) false ⟨[(0,.s),(1,.i .u8)],[],0,0,0,0⟩ [] [⟨.exit 0,⟨[(0,.s)],[],0,0,0,0⟩⟩] (cV n) n
def c136(n:Nat):PF Tryz.prog 136 [.s,.i .u8] (.s):=aJ Tryz.func136 Tryz.call136 [] [SX n] [] [] (fL n)
def SA(n:Nat):LP Tryz.prog Tryz.f224.ntmps:=cJ [] [] 0 (sb (acM [] [] Tryz.f224) 0) false ⟨[(0,.s),(1,.i .u8)],[],0,0,0,0⟩ [] [⟨.exit 0,⟨[(0,.s)],[],0,0,0,0⟩⟩] (eM n) n
def c224(n:Nat):PF Tryz.prog 224 [.s,.i .u8] (.s):=aJ Tryz.func224 Tryz.call224 [] [SA n] [] [] (gp n)
def c193(n:Nat):PF Tryz.prog 193 [.s,.sk [48]] (.s):=aJ Tryz.func193 Tryz.call193 [(c136 n).e,(c224 n).e] [] [] [] (nh n)
def c214(n:Nat):PF Tryz.prog 214 [.s,.sk [88]] (.i .i64):=aJ Tryz.func214 Tryz.call214 [(c124 n).e] [noL 0 (sb (acM [] [] Tryz.f214) 0)] [] [] (iS n)
def c180(n:Nat):PF Tryz.prog 180 [.s,.sk [88]] (.i .i64):=aJ Tryz.func180 Tryz.call180 [(c214 n).e] [] [] [] (mj n)
def c141(n:Nat):PF Tryz.prog 141 [.s,.sk [88]] (.b):=aJ Tryz.func141 Tryz.call141 [(c180 n).e] [] [] [] (ig n)
def c152(n:Nat):PF Tryz.prog 152 [.ag q41] (.b):=aJ Tryz.func152 Tryz.call152 [(c141 n).e] [] [] [] (cO n)
noncomputable def Ja(_n:Nat):Ent:=LE 201
theorem Hw(n:Nat):fK Tryz.prog (Ja n):=Jl Tryz.call201 λs h v hv w=>(Tryz.strconv_ParseInt_10_at64_ok s h v hv w).mono λe w' ⟨h1,h2⟩=>⟨h1,h2.elim (λh=>h▸RowKit.Below.refl _ _) (λ⟨t,h⟩=>h▸pa _ _ _)⟩
def c201(n:Nat):FE Tryz.prog:=libF (Hw n)
def TK(n:Nat):LP Tryz.prog Tryz.f202.ntmps:=cJ [] [] 0 (sb (acM [] [] Tryz.f202) 0) false ⟨[(4,.i .i64),(9,.i .i64),(10,.i .i64)],[],0,0,0,0⟩ [] [⟨.exit 0,q112⟩] (kh n) n
def c202(n:Nat):PF Tryz.prog 202 [.i .i64] (.tp [.i .i64,.i .i64]):=aJ Tryz.func202 Tryz.call202 [] [TK n] [] [] (n6 n)
def c237(n:Nat):PF Tryz.prog 237 [.i .i64] (.i .u64):=aJ Tryz.func237 Tryz.call237 [] [] [] [] (sW n)
def c236(n:Nat):PF Tryz.prog 236 [.i .u64,.i .u64] (.tp [.i .u64,.i .u64]):=aJ Tryz.func236 Tryz.call236 [] [] [] [] (ky n)
def c238(n:Nat):PF Tryz.prog 238 [.i .u64,.b] (.tp [.i .i64,.i .i64]):=aJ Tryz.func238 Tryz.call238 [] [] [] [] (rK n)
def c203(n:Nat):PF Tryz.prog 203 [.i .i64,.i .i64] (.tp [.i .i64,.i .i64]):=aJ Tryz.func203 Tryz.call203 [(c237 n).e,(c236 n).e,(c238 n).e] [] [] [] (vd n)
def c158(n:Nat):PF Tryz.prog 158 [.ag q41] (.tp [.i .i64,.i .i64]):=aJ Tryz.func158 Tryz.call158 [(c201 n),(c202 n).e,(c203 n).e] [] [] [] (dQ n)
def c194(n:Nat):PF Tryz.prog 194 [.ag q41] (.b):=aJ Tryz.func194 Tryz.call194 [(c192 n).e,(c158 n).e] [] [] [] (aV n)
def c151(n:Nat):PF Tryz.prog 151 [.ag q41] (.i .i64):=aJ Tryz.func151 Tryz.call151 [(c192 n).e,(c193 n).e,(c152 n).e,(c194 n).e] [] [] [] (iH n)
def c111(n:Nat):PF Tryz.prog 111 [.ag q41] (.tp [.i .i64,.i .i64]):=aJ Tryz.func111 Tryz.call111 [(c151 n).e,(c152 n).e,(c158 n).e] [] [] [] (dZ n)
noncomputable def xQ(l:List V):Option (Int):=match l with
 | [.i .i64 a0]=>some (a0)
 | _=>none
noncomputable def Jc(n:Nat):Ent:=CQ 195 xQ (λa=>fb n a) (λr=>.tp [.i .i64 r.1,.i .i64 r.2.1,.i .i64 r.2.2])
theorem G7(n:Nat):fK Tryz.prog (Jc n):=sj (arg:=λa=>[.i .i64 a]) Tryz.call195 (λl a h=>by
 unfold xQ at h
 split at h
 ·cases h;rfl
 ·cases h) (λa=>rfl) (λa r h=>rH n (λx r h=>pure_seasons_Check n x r h) a r h)
def c195(n:Nat):FE Tryz.prog:=libF (G7 n)
def c209(n:Nat):PF Tryz.prog 209 [.i .i64] (.i .i64):=aJ Tryz.func209 Tryz.call209 [] [] [] [] (iQ n)
def c199(n:Nat):PF Tryz.prog 199 [.i .i64,.i .i64] (.i .i64):=aJ Tryz.func199 Tryz.call199 [(c209 n).e] [] [] [] (jO n)
def c250(n:Nat):PF Tryz.prog 250 [.i .i64,.i .i64] (.tp [.i .i64,.i .i64]):=aJ Tryz.func250 Tryz.call250 [] [] [] [] (EM n)
def c228(n:Nat):PF Tryz.prog 228 [.i .i64,.i .i64] (.tp [.i .i64,.i .i64]):=aJ Tryz.func228 Tryz.call228 [(c250 n).e] [] [] [] (lg n)
theorem pure_ints_Div(n:Nat):∀a r,lg n a.1 a.2=some r->kL Tryz.prog 228 (argP [.i .i64,.i .i64] a) (encP (.tp [.i .i64,.i .i64]) r):=λa r h=>(c228 n).ok a r h
noncomputable def yy(l:List V):Option (Int):=match l with
 | [.i .i64 a0]=>some (a0)
 | _=>none
noncomputable def It(n:Nat):Ent:=CQ 243 yy (λa=>fa n a) (λr=>.i .i64 r)
theorem G4(n:Nat):fK Tryz.prog (It n):=sj (arg:=λa=>[.i .i64 a]) Tryz.call243 (λl a h=>by
 unfold yy at h
 split at h
 ·cases h;rfl
 ·cases h) (λa=>rfl) (λa r h=>tO n (λx y r h=>pure_ints_Div n (x,y) r h) a r h)
def c243(n:Nat):FE Tryz.prog:=libF (G4 n)
def c210(n:Nat):PF Tryz.prog 210 [.i .i64] (.i .i64):=aJ Tryz.func210 Tryz.call210 [(c243 n)] [] [] [] (kN n)
def c163(n:Nat):PF Tryz.prog 163 [.i .i64] (.tp [.i .i64,.i .i64]):=aJ Tryz.func163 Tryz.call163 [(c209 n).e,(c210 n).e] [] [] [] (kO n)
def c235(n:Nat):PF Tryz.prog 235 [.i .i64] (.tp [.b,.i .i64]):=aJ Tryz.func235 Tryz.call235 [(c209 n).e,(c243 n)] [] [] [] (jU n)
theorem pure_years_Leap(n:Nat):∀a r,jU n a=some r->kL Tryz.prog 235 (argP [.i .i64] a) (encP (.tp [.b,.i .i64]) r):=λa r h=>(c235 n).ok a r h
noncomputable def yP(l:List V):Option (Int×Int):=match l with
 | [.i .i64 a0,.i .i64 a1]=>some (a0,a1)
 | _=>none
noncomputable def KR(n:Nat):Ent:=CQ 200 yP (λa=>dR n a.1 a.2) (λr=>.i .i64 r)
theorem Ho(n:Nat):fK Tryz.prog (KR n):=sj (arg:=λa=>[.i .i64 a.1,.i .i64 a.2]) Tryz.call200 (λl a h=>by
 unfold yP at h
 split at h
 ·cases h;rfl
 ·cases h) (λa=>rfl) (λa r h=>sw n (λx r h=>pure_years_Leap n x r h) a.1 a.2 r h)
def c200(n:Nat):FE Tryz.prog:=libF (Ho n)
def Uo(n:Nat):List (FE Tryz.prog):=[(c199 n).e,(c163 n).e,(c200 n)]
def RS(n:Nat):LP Tryz.prog Tryz.f167.ntmps:=cJ (Uo n) [] 0 (sb (acM [] [] Tryz.f167) 0) false ⟨[(0,.i .i64),(7,.i .i64),(22,.i .i64),(23,.i .i64)],[],0,0,0,0⟩ [] [⟨.exit 0,⟨[(7,.i .i64)],[],0,0,0,0⟩⟩] (bA n) n
def c167(n:Nat):PF Tryz.prog 167 [.i .i64,.i .i64] (.tp [.i .i64,.i .i64]):=aJ Tryz.func167 Tryz.call167 (Uo n) [RS n] [] [] (fc n)
noncomputable def yb(l:List V):Option (Int×Int):=match l with
 | [.i .i64 a0,.i .i64 a1]=>some (a0,a1)
 | _=>none
noncomputable def Jz(n:Nat):Ent:=CQ 227 yb (λa=>qO n a.1 a.2) (λr=>.tp [.i .i64 r.1,.i .i64 r.2])
theorem HB(n:Nat):fK Tryz.prog (Jz n):=sj (arg:=λa=>[.i .i64 a.1,.i .i64 a.2]) Tryz.call227 (λl a h=>by
 unfold yb at h
 split at h
 ·cases h;rfl
 ·cases h) (λa=>rfl) (λa r h=>zZ n a.1 a.2 r h)
def c227(n:Nat):FE Tryz.prog:=libF (HB n)
def c229(n:Nat):PF Tryz.prog 229 [.i .i64,.i .i64] (.tp [.i .i64,.i .i64]):=aJ Tryz.func229 Tryz.call229 [] [] [] [] (uT n)
def c196(n:Nat):PF Tryz.prog 196 [.i .i64,.i .i64,.i .i64] (.tp [.i .i64,.i .i64,.i .i64]):=aJ Tryz.func196 Tryz.call196 [(c199 n).e,(c227 n),(c228 n).e,(c229 n).e,(c209 n).e] [] [] [] (oe n)
def c168(n:Nat):PF Tryz.prog 168 [.i .i64,.i .i64] (.tp [.i .i64,.i .i64]):=aJ Tryz.func168 Tryz.call168 [(c167 n).e,(c200 n)] [] [] [] (gB n)
def c153(n:Nat):PF Tryz.prog 153 [.i .i64,.i .i64] (.tp [.ag q63,.i .i64]):=aJ Tryz.func153 Tryz.call153 [(c195 n),(c167 n).e,(c196 n).e,(c168 n).e] [] [] [] (gS n)
def c101(n:Nat):PF Tryz.prog 101 q86 (.b):=aJ Tryz.func101 Tryz.call101 [(c151 n).e,(c79 n).e,(c152 n).e,(c111 n).e,(c153 n).e] [] [] [] (fq n)
def RX(n:Nat):LP Tryz.prog Tryz.f102.ntmps:=cJ [] [] 0 (sb (acM [] [] Tryz.f102) 0) false q120 [] [⟨.ret,⟨[(4,.b)],[],0,0,0,0⟩⟩,⟨.exit 0,q98⟩] (cU n) n
def c102(n:Nat):PF Tryz.prog 102 q33 (.b):=aJ Tryz.func102 Tryz.call102 [] [RX n] [] [] (cQ n)
def Sl(n:Nat):LP Tryz.prog Tryz.f104.ntmps:=cJ [] [] 0 (sb (acM [] [] Tryz.f104) 0) false ⟨[(3,.i .i64),(10,.ag [.s,.s]),(11,.i .i64)],[],1,0,0,0⟩ [] [⟨.exit 0,⟨[(3,.i .i64)],[],1,0,0,0⟩⟩] (bP n) n
def c104(n:Nat):PF Tryz.prog 104 q86 (.i .i64):=aJ Tryz.func104 Tryz.call104 [] [Sl n] [] [] (bG n)
def c64(n:Nat):PF Tryz.prog 64 q86 (.i .i64):=aJ Tryz.func64 Tryz.call64 [(c79 n).e,(c101 n).e,(c102 n).e,(c104 n).e,(c103 n).e] [] [] [] (kB n)
def c155(n:Nat):PF Tryz.prog 155 q33 (.b):=aJ Tryz.func155 Tryz.call155 [] [] [] [] (kl n)
def Ul(n:Nat):List (FE Tryz.prog):=[(c155 n).e]
def S5(n:Nat):LP Tryz.prog Tryz.f105.ntmps:=cJ (Ul n) [] 0 (sb (acM [] [] Tryz.f105) 0) false ⟨[(0,.s),(5,.ws 0),(7,.i .i64),(8,.i .i64)],q75,1,0,0,0⟩ [.nilT 5 0 [.i .i64]] [⟨.exit 0,⟨[(5,.ws 0)],q75,1,0,0,0⟩⟩] (fF n) n
def c105(n:Nat):FF Tryz.prog 105 q33 [] 0 0 [⟨.ws 0,q75,[0],false⟩]:=funC Tryz.func105 Tryz.call105 (Ul n) [S5 n] [] [] [] (eV n)
def c65(n:Nat):FF Tryz.prog 65 q86 [] 0 0 [⟨.ag q38,[(0,.rows [.i .i64]),(1,.rows [.i .i64])],[0,1],false⟩]:=funC Tryz.func65 Tryz.call65 [(c79 n).e,(c105 n).e] [] [] [] [] (oZ n)
def c106(n:Nat):FF Tryz.prog 106 [.ws 0] q90 1 1 [⟨.ws 1,[(1,.rows [.i .i64])],[1],false⟩]:=funC Tryz.func106 Tryz.call106 [] [] [] [] [0] (jf n)
def Uf(n:Nat):LP Tryz.prog Tryz.f107.ntmps:=cJ [] [] 0 (sb (acM [] [] Tryz.f107) 0) false ⟨[(0,.ws 0),(2,.i .i64),(3,.i .i64)],q75,1,1,0,1⟩ [] [⟨.exit 0,⟨[],q75,1,1,0,1⟩⟩] (jq n) n
def c107(n:Nat):FF Tryz.prog 107 [.ws 0] q90 0 1 [⟨.tp [],q75,[],false⟩]:=funC Tryz.func107 Tryz.call107 [] [Uf n] [] [] [0] (iw n)
def TV(n:Nat):LP Tryz.prog Tryz.f230.ntmps:=cJ [] [] 0 (sb (acM [] [] Tryz.f230) 0) false ⟨[(0,.s),(9,.p 0 0)],[(0,.iter)],1,0,0,0⟩ [] [⟨.ret,q99⟩,⟨.exit 0,⟨[(0,.s)],[],1,0,0,0⟩⟩] (il n) n
def c230(n:Nat):PF Tryz.prog 230 [.s] (.i .i64):=aJ Tryz.func230 Tryz.call230 [] [TV n] [] [] (jL n)
def TG(n:Nat):LP Tryz.prog Tryz.f251.ntmps:=cJ [] [] 0 (sb (acM [] [] Tryz.f251) 0) false ⟨[(1,.i .u8),(5,.i .i64),(9,.ws 0),(10,.i .i64),(11,.i .i64)],[(0,.rows [.i .u8])],1,0,0,0⟩ [] [⟨.exit 0,⟨[(5,.i .i64)],[],1,0,0,0⟩⟩] (gz n) n
def c251(n:Nat):PF Tryz.prog 251 [.s,.i .u8] (.i .i64):=aJ Tryz.func251 Tryz.call251 [] [TG n] [] [] (lD n)
def c231(n:Nat):PF Tryz.prog 231 [.s] (.tp [.i .i64,.i .i64]):=aJ Tryz.func231 Tryz.call231 [(c230 n).e,(c251 n).e] [] [] [] (oP n)
def c252(n:Nat):PF Tryz.prog 252 [.i .i64] (.i .i64):=aJ Tryz.func252 Tryz.call252 [(c202 n).e] [] [] [] (ot n)
def c232(n:Nat):PF Tryz.prog 232 q33 (.b):=aJ Tryz.func232 Tryz.call232 [(c252 n).e] [] [] [] (lH n)
def Uy(n:Nat):LP Tryz.prog Tryz.f253.ntmps:=cJ [] [] 0 (sb (acM [] [] Tryz.f253) 0) false ⟨[(1,.i .i64),(4,.p 0 0),(5,.i .i64)],[(0,.ints .u8 18)],1,0,0,0⟩ [] [⟨.exit 0,⟨[(4,.p 0 0)],[(0,.ints .u8 18)],1,0,0,0⟩⟩] (ip n) n
def c253(n:Nat):PF Tryz.prog 253 q33 (.ai .u8 18):=aJ Tryz.func253 Tryz.call253 [] [Uy n] [] [] (kT n)
def c254(n:Nat):PF Tryz.prog 254 [.s,.ai .u8 18] (.i .i64):=aJ Tryz.func254 Tryz.call254 [(c251 n).e] [] [] [] (gh n)
def M9(n:Nat):List (FE Tryz.prog):=[(c253 n).e,(c254 n).e]
def SQ(n:Nat):LP Tryz.prog Tryz.f233.ntmps:=cJ (M9 n) [] 0 (sb (acM [] [] Tryz.f233) 0) false q70 [] [⟨.exit 0,q70⟩] (fj n) n
def UD(n:Nat):LP Tryz.prog Tryz.f233.ntmps:=cJ (M9 n) [] 1 (sb (acM [] [] Tryz.f233) 1) false ⟨[(0,.s),(2,.b),(8,.i .u8),(9,.i .u8),(10,.p 0 0),(11,.p 1 0),(12,.i .i64)],[(0,.ints .u8 18),(1,.ints .u8 18)],74,0,0,0⟩ [] [⟨.ret,⟨[(6,.i .i64),(7,.i .i64)],[],74,0,0,0⟩⟩,⟨.exit 2,⟨[(0,.s),(2,.b),(8,.i .u8),(11,.p 1 0),(12,.i .i64)],[(1,.ints .u8 18)],74,0,0,0⟩⟩] (cc n) n
def TN(n:Nat):LP Tryz.prog Tryz.f233.ntmps:=cJ (M9 n) [] 2 (sb (acM [] [] Tryz.f233) 2) false ⟨[(0,.s),(8,.i .u8),(11,.p 1 0),(12,.i .i64)],[(1,.ints .u8 18)],74,0,0,0⟩ [] [⟨.exit 5,⟨[(0,.s),(11,.p 1 0)],[(1,.ints .u8 18)],74,0,0,0⟩⟩] (br n) n
def c233(n:Nat):PF Tryz.prog 233 [.s,.i .i64,.b] (.tp [.i .i64,.i .i64]):=aJ Tryz.func233 Tryz.call233 (M9 n) [SQ n,UD n,TN n] [] [] (cZ n)
def c197(n:Nat):PF Tryz.prog 197 q33 (.tp [.i .i64,.i .i64]):=aJ Tryz.func197 Tryz.call197 [(c230 n).e,(c231 n).e,(c232 n).e,(c233 n).e] [] [] [] (qM n)
def c234(n:Nat):PF Tryz.prog 234 [.s] (.tp [.i .i64,.i .i64]):=aJ Tryz.func234 Tryz.call234 [(c230 n).e,(c251 n).e] [] [] [] (la n)
def c198(n:Nat):PF Tryz.prog 198 q33 (.tp [.i .i64,.i .i64]):=aJ Tryz.func198 Tryz.call198 [(c230 n).e,(c232 n).e,(c234 n).e,(c233 n).e] [] [] [] (qS n)
def c156(n:Nat):PF Tryz.prog 156 [.s,.i .i64,.b,.i .i64] (.tp [.i .i64,.b]):=aJ Tryz.func156 Tryz.call156 [(c197 n).e,(c198 n).e] [] [] [] (fh n)
def c109(n:Nat):FF Tryz.prog 109 [.ag q38,.i .i64,.b] q106 2 2 [⟨.tp [.i .i64,.b],[],[],false⟩]:=funC Tryz.func109 Tryz.call109 [(c152 n).e,(c111 n).e,(c156 n).e] [] [] [] [0,1] (ca n)
def c108(n:Nat):FF Tryz.prog 108 [.i .i64,.i .i64,.p 0 0] [.cells [.b]] 1 1 [⟨.b,[],[],false⟩]:=funC Tryz.func108 Tryz.call108 [] [] [] [] [0] (cw n)
def c157(n:Nat):PF Tryz.prog 157 [.i .i64,.i .i64] (.tp [.i .i64,.i .i64]):=aJ Tryz.func157 Tryz.call157 [(c199 n).e,(c200 n)] [] [] [] (oi n)
def c110(n:Nat):FF Tryz.prog 110 [.ag q38,.i .i64,.i .i64] q106 2 2 [⟨.i .i64,[],[],false⟩]:=funC Tryz.func110 Tryz.call110 [(c157 n).e] [] [] [] [0,1] (eJ n)
def c66E(n:Nat):List (FE Tryz.prog):=[(c106 n).e,(c107 n).e,(c109 n).e,(c108 n).e,(c110 n).e]
def U1(n:Nat):LP Tryz.prog Tryz.f66.ntmps:=eU (c66E n) [] 1003 (sb (acM [] [3,17,20,23,30] Tryz.f66) 1003) false ⟨[(3,.p 2 0),(4,.p 3 0),(5,.p 4 0),(6,.p 5 0),(8,.ik .i64 1),(9,.ws 0),(10,.ws 1),(25,.b)],q67,62,2,2,2⟩ [⟨.nrm,⟨[(3,.p 2 0),(4,.p 3 0),(5,.p 4 0),(6,.p 5 0),(8,.ik .i64 (-1)),(9,.ws 62),(10,.ws 63)],[(0,.rows [.i .i64]),(1,.rows [.i .i64]),(2,.cells q38),(3,.cells [.i .i64,.i .i64,.i .i64]),(4,.cells [.b]),(5,.cells [.ik .i64 0,.ik .i64 0,.ik .i64 0]),(62,.rows [.i .i64]),(63,.rows [.i .i64])],64,2,2,2⟩⟩,⟨.nrm,⟨[(3,.p 2 0),(4,.p 3 0),(5,.p 4 0),(6,.p 5 0),(8,.ik .i64 1),(9,.ws 0),(10,.ws 1)],q67,62,2,2,2⟩⟩] (iI n)
def Oo(n:Nat):LP Tryz.prog Tryz.f66.ntmps:=eU (c66E n) [] 1020 (sb (sb (sb (sb (acM [] [3,17,20,23,30] Tryz.f66) 0).body 1).body 1017) 1020) false ⟨[(3,.p 2 0),(4,.p 3 0),(5,.p 4 0),(6,.p 5 0),(8,.i .i64),(9,.ws 62),(10,.ws 63),(11,.fn 108 [.p 4 0]),(12,.i .i64),(15,.i .i64),(16,.b),(53,.ws 62),(54,.i .i64),(55,.i .i64)],q15,64,2,2,2⟩ [⟨.nrm,⟨[(3,.p 2 0),(4,.p 3 0),(5,.p 4 0),(6,.p 5 0),(8,.i .i64),(9,.ws 62),(10,.ws 63),(11,.fn 108 [.p 4 0]),(12,.i .i64),(15,.i .i64),(16,.b),(53,.ws 62),(54,.i .i64),(55,.i .i64),(76,.b)],q15,64,2,2,2⟩⟩] (kM n)
def JZ(n:Nat):LP Tryz.prog Tryz.f66.ntmps:=eU (c66E n) [] 1020 (sb (sb (sb (sb (acM [] [3,17,20,23,30] Tryz.f66) 0).body 1).body 1017) 1020) false ⟨[(3,.p 2 0),(4,.p 3 0),(5,.p 4 0),(6,.p 5 0),(8,.i .i64),(9,.ws 0),(10,.ws 1),(11,.fn 108 [.p 4 0]),(12,.i .i64),(15,.i .i64),(16,.b),(53,.ws 0),(54,.i .i64),(55,.i .i64)],q18,62,2,2,2⟩ [⟨.nrm,⟨[(3,.p 2 0),(4,.p 3 0),(5,.p 4 0),(6,.p 5 0),(8,.i .i64),(9,.ws 0),(10,.ws 1),(11,.fn 108 [.p 4 0]),(12,.i .i64),(15,.i .i64),(16,.b),(53,.ws 0),(54,.i .i64),(55,.i .i64),(76,.b)],q18,62,2,2,2⟩⟩] (eW n)
def OK(n:Nat):LP Tryz.prog Tryz.f66.ntmps:=eU (c66E n) [] 1023 (sb (sb (sb (sb (acM [] [3,17,20,23,30] Tryz.f66) 0).body 1).body 1017) 1023) false q58 [⟨.nrm,q58⟩] (kH n)
def KY(n:Nat):LP Tryz.prog Tryz.f66.ntmps:=eU (c66E n) [] 1023 (sb (sb (sb (sb (acM [] [3,17,20,23,30] Tryz.f66) 0).body 1).body 1017) 1023) false q59 [⟨.nrm,q59⟩] (eK n)
def OV(n:Nat):LP Tryz.prog Tryz.f66.ntmps:=eU (c66E n) [] 1030 (sb (sb (sb (sb (sb (acM [] [3,17,20,23,30] Tryz.f66) 0).body 1).body 1017) 2).body 1030) false ⟨[(3,.p 2 0),(4,.p 3 0),(5,.p 4 0),(6,.p 5 0),(8,.i .i64),(9,.ws 62),(10,.ws 63),(11,.fn 108 [.p 4 0]),(12,.i .i64),(15,.i .i64),(16,.b),(17,.i .i64),(19,.i .i64),(53,.ws 62),(54,.i .i64),(55,.i .i64),(94,.ws 63),(95,.i .i64),(96,.i .i64)],q15,64,2,2,2⟩ [⟨.nrm,⟨[(3,.p 2 0),(4,.p 3 0),(5,.p 4 0),(6,.p 5 0),(8,.i .i64),(9,.ws 62),(10,.ws 63),(11,.fn 108 [.p 4 0]),(12,.i .i64),(15,.i .i64),(16,.b),(17,.i .i64),(19,.i .i64),(53,.ws 62),(54,.i .i64),(55,.i .i64),(94,.ws 63),(95,.i .i64),(96,.i .i64),(119,.b)],q15,64,2,2,2⟩⟩] (kK n)
def H6(n:Nat):LP Tryz.prog Tryz.f66.ntmps:=eU (c66E n) [] 1030 (sb (sb (sb (sb (sb (acM [] [3,17,20,23,30] Tryz.f66) 0).body 1).body 1017) 2).body 1030) false ⟨[(3,.p 2 0),(4,.p 3 0),(5,.p 4 0),(6,.p 5 0),(8,.i .i64),(9,.ws 0),(10,.ws 1),(11,.fn 108 [.p 4 0]),(12,.i .i64),(15,.i .i64),(16,.b),(17,.i .i64),(19,.i .i64),(53,.ws 0),(54,.i .i64),(55,.i .i64),(94,.ws 1),(95,.i .i64),(96,.i .i64)],q18,62,2,2,2⟩ [⟨.nrm,⟨[(3,.p 2 0),(4,.p 3 0),(5,.p 4 0),(6,.p 5 0),(8,.i .i64),(9,.ws 0),(10,.ws 1),(11,.fn 108 [.p 4 0]),(12,.i .i64),(15,.i .i64),(16,.b),(17,.i .i64),(19,.i .i64),(53,.ws 0),(54,.i .i64),(55,.i .i64),(94,.ws 1),(95,.i .i64),(96,.i .i64),(119,.b)],q18,62,2,2,2⟩⟩] (gM n)
def Tt(n:Nat):LP Tryz.prog Tryz.f66.ntmps:=cJ (c66E n) [altL (OV n) (H6 n) rfl] 2 (sb (sb (sb (sb (acM [] [3,17,20,23,30] Tryz.f66) 0).body 1).body 1017) 2) false ⟨[(3,.p 2 0),(4,.p 3 0),(5,.p 4 0),(6,.p 5 0),(8,.i .i64),(9,.ws 62),(10,.ws 63),(11,.fn 108 [.p 4 0]),(12,.i .i64),(15,.i .i64),(16,.b),(17,.i .i64),(53,.ws 62),(54,.i .i64),(55,.i .i64),(94,.ws 63),(95,.i .i64),(96,.i .i64)],q15,64,2,2,2⟩ [] [⟨.ret,q117⟩,⟨.exit 4,q37⟩] (lL n) n
def OO(n:Nat):LP Tryz.prog Tryz.f66.ntmps:=cJ (c66E n) [altL (OV n) (H6 n) rfl] 2 (sb (sb (sb (sb (acM [] [3,17,20,23,30] Tryz.f66) 0).body 1).body 1017) 2) false ⟨[(3,.p 2 0),(4,.p 3 0),(5,.p 4 0),(6,.p 5 0),(8,.i .i64),(9,.ws 0),(10,.ws 1),(11,.fn 108 [.p 4 0]),(12,.i .i64),(15,.i .i64),(16,.b),(17,.i .i64),(53,.ws 0),(54,.i .i64),(55,.i .i64),(94,.ws 1),(95,.i .i64),(96,.i .i64)],q18,62,2,2,2⟩ [] [⟨.ret,q118⟩,⟨.exit 4,q39⟩] (bE n) n
def Oy(n:Nat):LP Tryz.prog Tryz.f66.ntmps:=eU (c66E n) [altL (Oo n) (JZ n) rfl,altL (OK n) (KY n) rfl,altL (Tt n) (OO n) rfl] 1017 (sb (sb (sb (acM [] [3,17,20,23,30] Tryz.f66) 0).body 1).body 1017) false q37 [⟨.nrm,q37⟩,⟨.ret,q117⟩] (kJ n)
def IC(n:Nat):LP Tryz.prog Tryz.f66.ntmps:=eU (c66E n) [altL (Oo n) (JZ n) rfl,altL (OK n) (KY n) rfl,altL (Tt n) (OO n) rfl] 1017 (sb (sb (sb (acM [] [3,17,20,23,30] Tryz.f66) 0).body 1).body 1017) false q39 [⟨.nrm,q39⟩,⟨.ret,q118⟩] (gV n)
def Rr(n:Nat):LP Tryz.prog Tryz.f66.ntmps:=cJ (c66E n) [altL (Oy n) (IC n) rfl] 1 (sb (sb (acM [] [3,17,20,23,30] Tryz.f66) 0).body 1) false q37 [] [⟨.ret,q117⟩,⟨.exit 2,⟨[(3,.p 2 0),(4,.p 3 0),(5,.p 4 0),(6,.p 5 0),(8,.i .i64),(9,.ws 62),(10,.ws 63),(11,.fn 108 [.p 4 0]),(12,.i .i64)],q15,64,2,2,2⟩⟩] (ly n) n
def OX(n:Nat):LP Tryz.prog Tryz.f66.ntmps:=cJ (c66E n) [altL (Oy n) (IC n) rfl] 1 (sb (sb (acM [] [3,17,20,23,30] Tryz.f66) 0).body 1) false q39 [] [⟨.ret,q118⟩,⟨.exit 2,⟨[(3,.p 2 0),(4,.p 3 0),(5,.p 4 0),(6,.p 5 0),(8,.i .i64),(9,.ws 0),(10,.ws 1),(11,.fn 108 [.p 4 0]),(12,.i .i64)],q18,62,2,2,2⟩⟩] (bX n) n
def VK(n:Nat):LP Tryz.prog Tryz.f66.ntmps:=cJ (c66E n) [altL (Rr n) (OX n) rfl] 0 (sb (acM [] [3,17,20,23,30] Tryz.f66) 0) false ⟨[(3,.p 2 0),(4,.p 3 0),(5,.p 4 0),(6,.p 5 0),(8,.i .i64),(9,.ws 62),(10,.ws 63),(11,.fn 108 [.p 4 0]),(12,.i .i64),(13,.b)],q15,64,2,2,2⟩ [] [⟨.ret,q117⟩,⟨.exit 0,⟨[(6,.p 5 0)],q47,64,2,2,2⟩⟩] (lE n) n
def Ub(n:Nat):LP Tryz.prog Tryz.f66.ntmps:=cJ (c66E n) [altL (Rr n) (OX n) rfl] 0 (sb (acM [] [3,17,20,23,30] Tryz.f66) 0) false ⟨[(3,.p 2 0),(4,.p 3 0),(5,.p 4 0),(6,.p 5 0),(8,.i .i64),(9,.ws 0),(10,.ws 1),(11,.fn 108 [.p 4 0]),(12,.i .i64),(13,.b)],q18,62,2,2,2⟩ [] [⟨.ret,q118⟩,⟨.exit 0,⟨[(6,.p 5 0)],q47,62,2,2,2⟩⟩] (cL n) n
def c66(n:Nat):FF Tryz.prog 66 [.ag q38,.ag [.i .i64,.i .i64,.i .i64],.b] q106 2 2 [⟨.tp [.ag [.i .i64,.i .i64,.i .i64],.b],[],[],false⟩]:=funC Tryz.func66 Tryz.call66 (c66E n) [U1 n,altL (VK n) (Ub n) rfl] [] [3,17,20,23,30] [0,1] (iE n)
def c39(n:Nat):PF Tryz.prog 39 q86 (.i .i64):=aJ Tryz.func39 Tryz.call39 [(c64 n).e,(c65 n).e,(c66 n).e] [] [] [] (bn n)
def c47(n:Nat):FF Tryz.prog 47 [.p 0 0] q83 0 1 [⟨.it 65 (.ag [.i .i64,.i .i64]),q52,[],true⟩,⟨.tp [.ag q19,.i .i64],q52,[],false⟩]:=funC Tryz.func47 Tryz.call47 [(c77 n).e,(c39 n).e,(c45 n).e] [] [] [] [0] (gZ n)
def c25E(n:Nat):List (FE Tryz.prog):=[(c23 n).e,(c42 n).e,(c46 n).e,(c45 n).e]
def UQ(n:Nat):LP Tryz.prog Tryz.f25.ntmps:=cJ (c25E n) [] 0 (sb (acM [] [] Tryz.f25) 0) false ⟨[(0,.p 0 0),(1,.s),(4,.i .i64),(5,.s)],q52,1,1,0,1⟩ [] [⟨.exit 0,⟨[(0,.p 0 0),(4,.i .i64)],q52,1,1,0,1⟩⟩] (dH n) n
def c25(n:Nat):FF Tryz.prog 25 [.p 0 0,.s] q83 0 1 [⟨.tp [],q52,[],false⟩,⟨.it 65 (.ag [.i .i64,.i .i64]),q52,[],true⟩]:=funC Tryz.func25 Tryz.call25 (c25E n) [UQ n] [] [] [0] (bN n)
def c49(n:Nat):FF Tryz.prog 49 [.ws 0] q110 1 1 [⟨.rs 21 0 0 .q (some .q),[],[],false⟩]:=funC Tryz.func49 Tryz.call49 [] [] [] [] [0] (bw n)
def c38(n:Nat):FF Tryz.prog 38 [.ag q25] q110 1 1 [⟨.b,[],[],false⟩]:=funC Tryz.func38 Tryz.call38 [] [] [] [] [0] (nD n)
def c82(n:Nat):PF Tryz.prog 82 q86 (.b):=aJ Tryz.func82 Tryz.call82 [(c141 n).e] [] [] [] (eC n)
def c86(n:Nat):PF Tryz.prog 86 q86 (.b):=aJ Tryz.func86 Tryz.call86 [(c82 n).e] [] [] [] (lB n)
def c51(n:Nat):PF Tryz.prog 51 [.ag q48] (.i .i64):=aJ Tryz.func51 Tryz.call51 [(c39 n).e,(c86 n).e] [] [] [] (iP n)
def c113(n:Nat):FF Tryz.prog 113 [] [] 0 0 [⟨.mp 0,[(0,.mp .u8 [(0,161),(1,162),(2,166),(3,169)])],[0],false⟩]:=funC Tryz.func113 Tryz.call113 [] [] [] [] [] (iG n)
def c114(n:Nat):PF Tryz.prog 114 q86 (.i .u8):=aJ Tryz.func114 Tryz.call114 [(c79 n).e] [] [] [] (ba n)
def c161(n:Nat):FF Tryz.prog 161 [.i .i64,.ws 0] q90 1 1 [⟨.ag q63,[],[],false⟩]:=funC Tryz.func161 Tryz.call161 [(c153 n).e] [] [] [] [0] (fS n)
def c164(n:Nat):PF Tryz.prog 164 [.i .i64] (.tp [.i .i64,.i .i64]):=aJ Tryz.func164 Tryz.call164 [(c209 n).e,(c210 n).e] [] [] [] (sN n)
def c211(n:Nat):PF Tryz.prog 211 [.i .i64] (.ag [.i .i8,.i .i64]):=aJ Tryz.func211 Tryz.call211 [] [] [] [] (Dp n)
def c165(n:Nat):PF Tryz.prog 165 [.i .i64,.i .i64] (.ag q63):=aJ Tryz.func165 Tryz.call165 [(c211 n).e] [] [] [] (qF n)
def c162(n:Nat):FF Tryz.prog 162 [.i .i64,.ws 0] q90 1 1 [⟨.ag q63,[],[],false⟩]:=funC Tryz.func162 Tryz.call162 [(c163 n).e,(c164 n).e,(c165 n).e] [] [] [] [0] (fY n)
def c166(n:Nat):FF Tryz.prog 166 [.i .i64,.ws 0] q90 1 1 [⟨.ag q63,[],[],false⟩]:=funC Tryz.func166 Tryz.call166 [(c167 n).e,(c168 n).e,(c165 n).e] [] [] [] [0] (gi n)
def c212(n:Nat):PF Tryz.prog 212 [.ag [.i .i64,.i .i64,.i .i64]] (.i .i64):=aJ Tryz.func212 Tryz.call212 [(c157 n).e] [] [] [] (qj n)
def c170(n:Nat):PF Tryz.prog 170 [.ag [.i .i64,.i .i64,.i .i64]] (.tp [.i .i64,.i .i64]):=aJ Tryz.func170 Tryz.call170 [(c212 n).e,(c167 n).e] [] [] [] (qN n)
def c169(n:Nat):FF Tryz.prog 169 [.i .i64,.ws 0] q90 1 1 [⟨.ag q63,[],[],false⟩]:=funC Tryz.func169 Tryz.call169 [(c170 n).e,(c165 n).e] [] [] [] [0] (fX n)
def c67(n:Nat):PF Tryz.prog 67 q86 (.tp [.ag q63,.i .i64]):=aJ Tryz.func67 Tryz.call67 [(c39 n).e,(c86 n).e,(c111 n).e,(c112 n),(c113 n).e,(c114 n).e,(c161 n).e,(c162 n).e,(c166 n).e,(c169 n).e] [] [] [] (fR n)
def c171(n:Nat):PF Tryz.prog 171 [.i .i8] (.b):=aJ Tryz.func171 Tryz.call171 [] [] [] [] (nF n)
def c116(n:Nat):PF Tryz.prog 116 [.i .i8,.i .i8] (.i .i64):=aJ Tryz.func116 Tryz.call116 [(c171 n).e] [] [] [] (lX n)
def c172(n:Nat):PF Tryz.prog 172 [.i .i64] (.b):=aJ Tryz.func172 Tryz.call172 [] [] [] [] (ku n)
def c117(n:Nat):PF Tryz.prog 117 [.i .i64,.i .i64] (.i .i64):=aJ Tryz.func117 Tryz.call117 [(c172 n).e] [] [] [] (ja n)
def Sm(n:Nat):LP Tryz.prog Tryz.f115.ntmps:=cJ [] [] 0 (sb (acM [] [] Tryz.f115) 0) false ⟨[(3,.i .i64),(6,.ws 0),(7,.i .i64),(8,.i .i64)],q75,1,1,1,1⟩ [] [⟨.ret,⟨[(2,.i .i64)],[],1,1,1,1⟩⟩,⟨.exit 0,⟨[(3,.i .i64)],[],1,1,1,1⟩⟩] (sD n) n
def c115(n:Nat):FF Tryz.prog 115 [.ws 0] q90 1 1 [⟨.i .i64,[],[],false⟩]:=funC Tryz.func115 Tryz.call115 [] [Sm n] [] [] [0] (nR n)
def c68(n:Nat):PF Tryz.prog 68 [.ag [.i .i8,.i .i64],.ag [.i .i8,.i .i64]] (.i .i64):=aJ Tryz.func68 Tryz.call68 [(c116 n).e,(c117 n).e,(c115 n).e] [] [] [] (jW n)
def c40(n:Nat):PF Tryz.prog 40 [.ag q48,.ag q48] (.i .i64):=aJ Tryz.func40 Tryz.call40 [(c51 n).e,(c67 n).e,(c68 n).e] [] [0] [] (gg n)
def c118(n:Nat):FF Tryz.prog 118 [.p 0 0] [.cells q24] 1 1 [⟨.b,[],[],false⟩]:=funC Tryz.func118 Tryz.call118 [] [] [] [] [0] (pB n)
def c122(n:Nat):PF Tryz.prog 122 [.ag q34] (.b):=aJ Tryz.func122 Tryz.call122 [(c82 n).e] [] [] [] (mV n)
def c123(n:Nat):PF Tryz.prog 123 [.ag q34] (.b):=aJ Tryz.func123 Tryz.call123 [(c39 n).e,(c122 n).e,(c114 n).e] [] [] [] (kU n)
def c120(n:Nat):PF Tryz.prog 120 [.ag q34,.ag q34] (.b):=aJ Tryz.func120 Tryz.call120 [(c123 n).e,(c114 n).e,(c67 n).e,(c68 n).e] [] [] [] (mB n)
def c119(n:Nat):FF Tryz.prog 119 [.p 0 0] [.cells q24] 1 1 [⟨.b,[],[],false⟩]:=funC Tryz.func119 Tryz.call119 [(c120 n).e] [] [] [] [0] (pF n)
def c121(n:Nat):FF Tryz.prog 121 q116 [.cells [.i .u8],.cells q24] 2 2 [⟨.b,[],[],false⟩]:=funC Tryz.func121 Tryz.call121 [(c122 n).e] [] [] [] [0,1] (pY n)
def c69(n:Nat):FF Tryz.prog 69 [.sl 0 0 3 (some (.k 3))] [.cells [.i .i64,.fn 118 [.p 1 0],.i .i64,.fn 119 [.p 1 0],.i .i64,.fn 121 [.p 2 0,.p 1 0]],.cells q24,.cells [.i .u8]] 3 3 [⟨.i .i64,[],[],false⟩]:=funC Tryz.func69 Tryz.call69 [(c118 n).e,(c119 n).e,(c121 n).e] [] [0] [] [0,1,2] (dT n)
def c70(n:Nat):PF Tryz.prog 70 [.ag q24,.i .u8] (.i .i64):=aJ Tryz.func70 Tryz.call70 [(c39 n).e,(c69 n).e] [] [] [] (gH n)
def c71(n:Nat):FF Tryz.prog 71 q116 [.cells q24,.cells q55,.rows q11] 3 3 [⟨.b,[],[],false⟩]:=funC Tryz.func71 Tryz.call71 [(c70 n).e] [] [] [] [0,1,2] (pw n)
def c73(n:Nat):PF Tryz.prog 73 [.ag q24] (.b):=aJ Tryz.func73 Tryz.call73 [(c123 n).e] [] [] [] (mZ n)
def c72(n:Nat):FF Tryz.prog 72 [.p 0 0,.p 1 0,.p 2 0] [.cells [.i .u8,.bd,.b,.s,.i .i64,.i .i64,.s,.s,.i .u8,.i .u8,.i .u8,.i .u8,.bd,.b,.s,.i .i64,.i .i64,.s,.s,.i .u8,.i .u8,.i .u8,.i .u8,.bd,.b,.s,.i .i64,.i .i64,.s,.s,.i .u8,.i .u8,.i .u8,.rs 21 3 0 .q (some .q),.b,.b],.cells [.i .i64],.cells q24,.rows q11] 4 4 [⟨.b,[],[],false⟩]:=funC Tryz.func72 Tryz.call72 [(c73 n).e] [] [] [] [0,1,2,3] (pC n)
def c74(n:Nat):FF Tryz.prog 74 [.p 0 0,.p 1 0,.p 2 0,.p 3 0] [.cells [.i .u8,.bd,.b,.s,.i .i64,.i .i64,.s,.s,.i .u8,.i .u8,.i .u8,.i .u8,.bd,.b,.s,.i .i64,.i .i64,.s,.s,.i .u8,.i .u8,.i .u8,.i .u8,.bd,.b,.s,.i .i64,.i .i64,.s,.s,.i .u8,.i .u8,.i .u8,.rs 21 4 0 .q (some .q),.b,.b],.cells [.i .i64],.cells [.i .i64],.cells q24,.rows q11] 5 5 [⟨.b,[],[],false⟩]:=funC Tryz.func74 Tryz.call74 [(c73 n).e] [] [] [] [0,1,2,3,4] (qe n)
def c75(n:Nat):FF Tryz.prog 75 q116 [.cells q55,.cells [.i .i64],.rows q11] 3 3 [⟨.b,[],[],false⟩]:=funC Tryz.func75 Tryz.call75 [] [] [] [] [0,1,2] (qw n)
def UW(n:Nat):FF Tryz.prog 69 [.sl 0 0 4 (some (.k 4))] [.cells [.i .i64,.fn 71 [.p 1 0,.p 2 0],.i .i64,.fn 72 [.p 2 0,.p 3 0,.p 1 0],.i .i64,.fn 74 [.p 2 0,.p 3 0,.p 4 0,.p 1 0],.i .i64,.fn 75 [.p 2 0,.p 4 0]],.cells q24,.cells [.i .u8,.bd,.b,.s,.i .i64,.i .i64,.s,.s,.i .u8,.i .u8,.i .u8,.i .u8,.bd,.b,.s,.i .i64,.i .i64,.s,.s,.i .u8,.i .u8,.i .u8,.i .u8,.bd,.b,.s,.i .i64,.i .i64,.s,.s,.i .u8,.i .u8,.i .u8,.rs 21 5 0 .q (some .q),.b,.b],.cells [.i .i64],.cells [.i .i64],.rows q11] 6 6 [⟨.i .i64,[],[],false⟩]:=funC Tryz.func69 Tryz.call69 [(c71 n).e,(c72 n).e,(c74 n).e,(c75 n).e] [] [0] [] [0,1,2,3,4,5] (lW n)
def c41E(n:Nat):List (FE Tryz.prog):=[(c70 n).e,(UW n).e]
def Vh(n:Nat):LP Tryz.prog Tryz.f41.ntmps:=cJ (c41E n) [] 0 (sb (acM [] [] Tryz.f41) 0) true ⟨[(1,.p 1 0),(4,.p 2 0),(13,.rs 21 0 0 .q (some .q)),(14,.i .i64),(15,.i .i64)],[(0,.rows q11),(1,.cells q25),(2,.cells [.i .i64])],3,1,1,1⟩ [] q96 (jF n) n
def c41(n:Nat):FF Tryz.prog 41 [.ag q25] q110 1 1 [⟨.tp [.i .i64,.i .i64],[],[],false⟩]:=funC Tryz.func41 Tryz.call41 (c41E n) [Vh n] [] [] [0] (mH n)
def c18(n:Nat):FF Tryz.prog 18 [.ag q25] q110 1 1 [⟨.tp [.i .i64,.i .i64],[],[],false⟩]:=funC Tryz.func18 Tryz.call18 [(c38 n).e,(c39 n).e,(c40 n).e,(c41 n).e] [] [] [] [0] (fO n)
def c21E(n:Nat):List (FE Tryz.prog):=[(c43 n).e,(c44 n).e,(c23 n).e,(c46 n).e,(c45 n).e,(c47 n).e,(c48 n).e,(c25 n).e,(c49 n).e,(c18 n).e]
def VY(n:Nat):LP Tryz.prog Tryz.f21.ntmps:=eU (c21E n) [] 1003 (sb (acM [] [3,16,17] Tryz.f21) 1003) true ⟨[(0,.p 0 0),(2,.p 1 0),(3,.p 2 0),(15,.b)],[(0,.cells q33),(1,.cells q13),(2,.cells [.ik .u8 3,.bk false,.bk false,.sk [],.ik .i64 0,.ik .i64 0,.sk [],.sk [],.ik .u8 0,.ik .u8 0,.ik .u8 0,.ik .u8 0,.bk false,.bk false,.sk [],.ik .i64 0,.ik .i64 0,.sk [],.sk [],.ik .u8 0,.ik .u8 0,.ik .u8 0,.ik .u8 0,.bk false,.bk false,.sk [],.ik .i64 0,.ik .i64 0,.sk [],.sk [],.ik .u8 0,.ik .u8 0,.ik .u8 0,.ws 4,.bk false,.bk false]),(3,.rows q11),(4,.rows q11)],5,1,0,1⟩ [⟨.nrm,⟨[(0,.p 0 0),(2,.p 1 0),(3,.p 2 0)],[(0,.cells q33),(1,.cells q13),(2,.cells [.i .u8,.bk false,.bk false,.sk [],.ik .i64 0,.ik .i64 0,.sk [],.sk [],.ik .u8 0,.ik .u8 0,.ik .u8 0,.ik .u8 0,.bk false,.bk false,.sk [],.ik .i64 0,.ik .i64 0,.sk [],.sk [],.ik .u8 0,.ik .u8 0,.ik .u8 0,.ik .u8 0,.bk false,.bk false,.sk [],.ik .i64 0,.ik .i64 0,.sk [],.sk [],.ik .u8 0,.ik .u8 0,.ik .u8 0,.ws 4,.bk false,.bk false]),(3,.rows q11),(4,.rows q11)],5,1,0,1⟩⟩] (mG n)
def Rm(n:Nat):LP Tryz.prog Tryz.f21.ntmps:=eU (c21E n) [] 1016 (sb (sb (acM [] [3,16,17] Tryz.f21) 0).body 1016) true ⟨q95,q36,7,1,0,1⟩ [⟨.nrm,q85⟩] (ll n)
def SK(n:Nat):LP Tryz.prog Tryz.f21.ntmps:=eU (c21E n) [] 1017 (sb (sb (acM [] [3,16,17] Tryz.f21) 0).body 1017) true q85 [⟨.pan (.it 65 (.ag [.i .i64,.i .i64])),⟨[],q52,1,1,0,1⟩⟩,⟨.nrm,⟨q95,[(0,.cells q33),(1,.cells q20),(2,.cells q27),(3,.rows [.i .i64]),(4,.cells q24),(5,.rows q11),(6,.rows q11)],7,1,0,1⟩⟩] (li n)
def VH(n:Nat):LP Tryz.prog Tryz.f21.ntmps:=cJ (c21E n) [Rm n,SK n] 0 (sb (acM [] [3,16,17] Tryz.f21) 0) true ⟨q115,[(0,.cells q33),(1,.cells q21),(2,.cells q45),(3,.rows [.i .i64]),(4,.rows q11),(5,.rows q11)],6,1,0,1⟩ [.nilT 6 1000 [.i .i64]] [⟨.pan (.it 65 (.ag [.i .i64,.i .i64])),⟨[],q52,1,1,0,1⟩⟩,⟨.exit 0,⟨q115,[(0,.cells q33),(1,.cells [.i .u8,.bd,.b,.s,.i .i64,.i .i64,.s,.s,.i .u8,.i .u8,.i .u8,.i .u8,.bd,.b,.s,.i .i64,.i .i64,.s,.s,.i .u8,.i .u8,.i .u8,.i .u8,.bd,.b,.s,.i .i64,.i .i64,.s,.s,.i .u8,.i .u8,.i .u8,.ws 4,.b,.b]),(2,.cells q61),(3,.rows [.i .i64]),(4,.rows q11),(5,.rows q11)],6,1,0,1⟩⟩] (eQ n) n
def c21(n:Nat):FF Tryz.prog 21 [.p 0 0] q83 0 1 [⟨.it 65 (.ag [.i .i64,.i .i64]),q52,[],true⟩,⟨.ag [.i .u8,.bd,.b,.s,.i .i64,.i .i64,.s,.s,.i .u8,.i .u8,.i .u8,.i .u8,.bd,.b,.s,.i .i64,.i .i64,.s,.s,.i .u8,.i .u8,.i .u8,.i .u8,.bd,.b,.s,.i .i64,.i .i64,.s,.s,.i .u8,.i .u8,.i .u8,.rs 21 1 0 .q (some .q),.b,.b],[(0,.cells q33),(1,.rows q11)],[1],false⟩]:=funC Tryz.func21 Tryz.call21 (c21E n) [VY n,VH n] [] [3,16,17] [0] (mJ n)
def c22(n:Nat):FF Tryz.prog 22 [.p 2 0,.i .i64] [.cells q33,.rows q11,.cells q53] 2 3 [⟨.tp [],[(2,.cells q53)],[],false⟩]:=funC Tryz.func22 Tryz.call22 [nilF] [] [] [] [2,0,1] (eY n)
def SN(n:Nat):FF Tryz.prog 22 [.p 1 0,.i .i64] [.cells q33,.cells q56] 1 2 [⟨.tp [],[(1,.cells q56)],[],false⟩]:=funC Tryz.func22 Tryz.call22 [nilF] [] [] [] [1,0] (cj n)
def NB(_n:Nat):Ent:=OZ 80
theorem JQ(n:Nat):fK Tryz.prog (NB n):=ID Tryz.call80 λs c w h1 h2 h3=>Tryz.strings_TrimRight_laid s c w h1 h2 h3
def c80(n:Nat):FE Tryz.prog:=libF (JQ n)
def RO(n:Nat):PF Tryz.prog 134 [.s,.sk [45]] (.b):=aJ Tryz.func134 Tryz.call134 [] [] [] [] (eN n)
def c140(n:Nat):PF Tryz.prog 140 [.s,.sk [45]] (.s):=aJ Tryz.func140 Tryz.call140 [(RO n).e] [] [] [] (fC n)
def c81(n:Nat):PF Tryz.prog 81 [.s,.sk [45]] (.s):=aJ Tryz.func81 Tryz.call81 [(c140 n).e] [] [] [] (iz n)
end
end Go.Sh
