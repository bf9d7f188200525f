import Derived.Test.YtadejcglcffgbacGreatDoorAbsPat
import Derived.Test.YtadejcglcffgbacGreatDoorHGa
import Derived.Test.YtadejcglcffgbacGreatDoorHGb
import Derived.Test.YtadejcglcffgbacGreatDoorHGe
import Derived.Test.YtadejcglcffgbacGreatDoorHGf
set_option linter.unusedVariables false
set_option linter.unusedSimpArgs false
set_option maxRecDepth 100000
set_option maxHeartbeats 4000000
namespace Go.Sh
open Go.Abs Go.Proofs
noncomputable section
abbrev q21:List PV:=[.s,.i .i64]
abbrev q32:List PV:=[.b,.b,.s,.i .i64,.i .i64]
abbrev q34:List PV:=[.i .u8,.b,.i .u16,.i .u8,.i .u8,.i .u8,.i .u8,.i .u8,.i .u8,.i .u8]
abbrev q20:List PV:=[.b,.b,.s,.i .i64,.i .i64,.s,.s,.i .u8,.i .u8,.i .u8]
abbrev q64:List PV:=[.ag q20]
abbrev q74:List (Nat×PV):=[(0,.s),(7,.s),(8,.i .i64),(9,.i .i64),(12,.i .i64)]
abbrev q22:List PV:=[.i .i64,.i .i64,.i .i64]
abbrev q49:List PV:=[.i .i8,.i .i64,.i .i8,.i .i64]
abbrev q58:List (Nat×PB):=[(0,.rows [.i .i64])]
abbrev q26:List PV:=[.b,.b,.s,.i .i64,.i .i64,.s,.s,.i .u8,.i .u8,.i .u8,.ws 0,.ws 1]
abbrev q63:List PB:=[.rows [.i .i64]]
abbrev q57:PSt:=⟨[(0,.s),(1,.i .i64),(2,.b),(8,.i .u8),(9,.i .u8),(10,.p 0 0),(11,.p 1 0),(12,.i .i64)],[(0,.ints .u8 18),(1,.ints .u8 18)],2,0,0,0⟩
abbrev q70:List PB:=[.rows [.i .i64],.rows [.i .i64]]
abbrev q54:List (Nat×PB):=[(0,.rows [.i .i64]),(1,.rows [.i .i64]),(2,.cells q26),(3,.cells q22),(4,.cells [.b]),(5,.cells [.ik .i64 0,.ik .i64 0,.ik .i64 0])]
abbrev q12:List (Nat×PB):=[(0,.rows [.i .i64]),(1,.rows [.i .i64]),(2,.cells q26),(3,.cells q22),(4,.cells [.b]),(5,.cells q22),(62,.rows [.i .i64]),(63,.rows [.i .i64])]
abbrev q15:List (Nat×PB):=[(0,.rows [.i .i64]),(1,.rows [.i .i64]),(2,.cells q26),(3,.cells q22),(4,.cells [.b]),(5,.cells q22)]
abbrev q42:PSt:=⟨[(3,.p 2 0),(4,.p 3 0),(5,.p 4 0),(6,.p 5 0),(8,.i .i64),(9,.ws 62),(10,.ws 63),(11,.fn 71 [.p 4 0]),(12,.i .i64),(15,.i .i64),(16,.b),(17,.i .i64),(53,.ws 62),(54,.i .i64),(55,.i .i64)],q12,64,2,2,2⟩
abbrev q44:PSt:=⟨[(3,.p 2 0),(4,.p 3 0),(5,.p 4 0),(6,.p 5 0),(8,.i .i64),(9,.ws 0),(10,.ws 1),(11,.fn 71 [.p 4 0]),(12,.i .i64),(15,.i .i64),(16,.b),(17,.i .i64),(53,.ws 0),(54,.i .i64),(55,.i .i64)],q15,62,2,2,2⟩
abbrev q55:PSt:=⟨[(6,.p 5 0),(7,.b)],[(5,.cells q22)],64,2,2,2⟩
abbrev q25:PSt:=⟨[(3,.p 2 0),(4,.p 3 0),(5,.p 4 0),(6,.p 5 0),(8,.i .i64),(9,.ws 62),(10,.ws 63),(11,.fn 71 [.p 4 0]),(12,.i .i64),(53,.ws 62),(54,.i .i64),(55,.i .i64)],q12,64,2,2,2⟩
abbrev q56:PSt:=⟨[(6,.p 5 0),(7,.b)],[(5,.cells q22)],62,2,2,2⟩
abbrev q27:PSt:=⟨[(3,.p 2 0),(4,.p 3 0),(5,.p 4 0),(6,.p 5 0),(8,.i .i64),(9,.ws 0),(10,.ws 1),(11,.fn 71 [.p 4 0]),(12,.i .i64),(53,.ws 0),(54,.i .i64),(55,.i .i64)],q15,62,2,2,2⟩
abbrev q28:List (Nat×PB):=[(1,.rows [.i .i64]),(2,.rows [.i .i64]),(3,.cells [.b,.b,.s,.i .i64,.i .i64,.s,.s,.i .u8,.i .u8,.i .u8,.ws 1,.ws 2])]
abbrev q61:PSt:=⟨[(5,.p 3 0),(8,.i .i64),(9,.i .i64),(63,.ws 1),(64,.i .i64),(65,.i .i64)],q28,4,0,0,0⟩
abbrev q59:List PB:=[.cells q21]
abbrev q36:List (Nat×PB):=[(0,.cells q21)]
abbrev q71:List PX:=[⟨.ret,⟨[(4,.i .i64)],[],1,1,1,1⟩⟩,⟨.exit 0,⟨[],[],1,1,1,1⟩⟩]
abbrev q69:List (Nat×PB):=[(1,.cells q21)]
abbrev q72:List PV:=[.p 0 0,.p 1 0]
abbrev q65:List PB:=[.cells [.fn 242 [.p 1 0]],.cells [.fn 1000241 [.p 3 0]],.cells q20,.cells q21]
abbrev q62:List (Nat×PB):=[(2,.cells q20),(3,.cells q21)]
abbrev q11:List Lf:=[.bo,.bo,.s,.i .i64,.i .i64,.s,.s,.i .u8,.i .u8,.i .u8,.bo,.bo,.bo,.s,.i .i64,.i .i64,.s,.s,.i .u8,.i .u8,.i .u8]
abbrev q52:List PB:=[.rows q11]
abbrev q13:List PV:=[.i .u8,.bd,.b,.s,.i .i64,.i .i64,.s,.s,.i .u8,.i .u8,.i .u8,.i .u8,.bd,.b,.s,.i .i64,.i .i64,.s,.s,.i .u8,.i .u8,.i .u8,.i .u8,.bd,.b,.s,.i .i64,.i .i64,.s,.s,.i .u8,.i .u8,.i .u8,.rs 21 0 0 .q (some .q),.b,.b]
abbrev q77:List PV:=[.ag q13]
abbrev q48:List PV:=[.i .u8,.b,.b,.s,.i .i64,.i .i64,.s,.s,.i .u8,.i .u8,.i .u8]
abbrev q19:List PV:=[.bd,.b,.s,.i .i64,.i .i64,.s,.s,.i .u8,.i .u8,.i .u8,.b,.bd,.b,.s,.i .i64,.i .i64,.s,.s,.i .u8,.i .u8,.i .u8]
abbrev q24:List PV:=[.bd,.b,.s,.i .i64,.i .i64,.s,.s,.i .u8,.i .u8,.i .u8]
abbrev q39:List PV:=[.i .u8,.bd,.b,.s,.i .i64,.i .i64,.s,.s,.i .u8,.i .u8,.i .u8,.i .u8,.bd,.b,.s,.i .i64,.i .i64,.s,.s,.i .u8,.i .u8,.i .u8,.i .u8,.bd,.b,.s,.i .i64,.i .i64,.s,.s,.i .u8,.i .u8,.i .u8,.rs 21 2 0 .q (some .q),.b,.b]
abbrev q51:List PV:=[.i .i64,.fn 211 [.p 1 0,.p 2 0],.i .i64,.fn 212 [.p 2 0,.p 3 0,.p 1 0],.i .i64,.fn 214 [.p 2 0,.p 3 0,.p 4 0,.p 1 0],.i .i64,.fn 215 [.p 2 0,.p 4 0]]
abbrev q68:List PX:=[⟨.ret,⟨[(2,.i .i64),(3,.i .i64)],[],1,1,1,1⟩⟩,⟨.exit 0,⟨[],[],1,1,1,1⟩⟩]
abbrev q29:List PV:=[.ik .u8 0,.bk false,.bk false,.sk [],.ik .i64 0,.ik .i64 0,.sk [],.sk [],.ik .u8 0,.ik .u8 0,.ik .u8 0,.ik .u8 0,.bk false,.bk false,.sk [],.ik .i64 0,.ik .i64 0,.sk [],.sk [],.ik .u8 0,.ik .u8 0,.ik .u8 0,.ik .u8 0,.bk false,.bk false,.sk [],.ik .i64 0,.ik .i64 0,.sk [],.sk [],.ik .u8 0,.ik .u8 0,.ik .u8 0,.ws 3,.bk false,.bk false]
abbrev q67:List (Nat×PV):=[(0,.p 0 0),(2,.p 1 0),(3,.p 2 0),(5,.s),(6,.ws 3),(7,.p 4 0),(9,.i .i64)]
abbrev q30:List PV:=[.ik .u8 0,.bk false,.bk false,.sk [],.ik .i64 0,.ik .i64 0,.sk [],.sk [],.ik .u8 0,.ik .u8 0,.ik .u8 0,.ik .u8 0,.bk false,.bk false,.sk [],.ik .i64 0,.ik .i64 0,.sk [],.sk [],.ik .u8 0,.ik .u8 0,.ik .u8 0,.ik .u8 0,.bk false,.bk false,.sk [],.ik .i64 0,.ik .i64 0,.sk [],.sk [],.ik .u8 0,.ik .u8 0,.ik .u8 0,.ws 5,.bk false,.bk false]
abbrev q31:List PV:=[.i .u8,.bk false,.bk false,.sk [],.ik .i64 0,.ik .i64 0,.sk [],.sk [],.ik .u8 0,.ik .u8 0,.ik .u8 0,.ik .u8 0,.bk false,.bk false,.sk [],.ik .i64 0,.ik .i64 0,.sk [],.sk [],.ik .u8 0,.ik .u8 0,.ik .u8 0,.ik .u8 0,.bk false,.bk false,.sk [],.ik .i64 0,.ik .i64 0,.sk [],.sk [],.ik .u8 0,.ik .u8 0,.ik .u8 0,.ws 6,.b,.bk false]
abbrev q16:List (Nat×PB):=[(0,.cells q21),(1,.cells q30),(2,.cells q31),(3,.rows [.i .i64]),(4,.cells [.bd,.b,.s,.i .i64,.i .i64,.s,.s,.i .u8,.i .u8,.i .u8,.bk false,.bk false,.bk false,.sk [],.ik .i64 0,.ik .i64 0,.sk [],.sk [],.ik .u8 0,.ik .u8 0,.ik .u8 0]),(5,.rows q11),(6,.rows q11)]
abbrev q60:PSt:=⟨[(0,.p 0 0),(2,.p 1 0),(3,.p 2 0),(5,.s),(6,.ws 3),(7,.p 4 0),(9,.i .i64),(49,.b)],q16,7,1,0,1⟩
abbrev q75:List (Nat×PV):=[(0,.p 0 0),(2,.p 1 0),(3,.p 2 0),(5,.s),(6,.ws 3)]
abbrev q45:List PV:=[.i .u8,.bd,.b,.s,.i .i64,.i .i64,.s,.s,.i .u8,.i .u8,.i .u8,.i .u8,.bd,.b,.s,.i .i64,.i .i64,.s,.s,.i .u8,.i .u8,.i .u8,.i .u8,.bd,.b,.s,.i .i64,.i .i64,.s,.s,.i .u8,.i .u8,.i .u8,.ws 4,.b,.b]
abbrev q46:List PV:=[.i .u8,.bd,.b,.s,.i .i64,.i .i64,.s,.s,.i .u8,.i .u8,.i .u8,.i .u8,.bd,.b,.s,.i .i64,.i .i64,.s,.s,.i .u8,.i .u8,.i .u8,.i .u8,.bd,.b,.s,.i .i64,.i .i64,.s,.s,.i .u8,.i .u8,.i .u8,.ws 5,.b,.b]
abbrev q37:List PV:=[.p 0 0,.i .u8,.bd,.b,.s,.i .i64,.i .i64,.s,.s,.i .u8,.i .u8,.i .u8,.i .u8,.bd,.b,.s,.i .i64,.i .i64,.s,.s,.i .u8,.i .u8,.i .u8,.i .u8,.bd,.b,.s,.i .i64,.i .i64,.s,.s,.i .u8,.i .u8,.i .u8,.rs 21 1 0 .q (some .q),.b,.b,.i .i64]
abbrev q40:List PV:=[.p 0 0,.i .u8,.bd,.b,.s,.i .i64,.i .i64,.s,.s,.i .u8,.i .u8,.i .u8,.i .u8,.bd,.b,.s,.i .i64,.i .i64,.s,.s,.i .u8,.i .u8,.i .u8,.i .u8,.bd,.b,.s,.i .i64,.i .i64,.s,.s,.i .u8,.i .u8,.i .u8,.ws 1,.b,.b,.i .i64]
def c47(n:Nat):PF Tryz.prog 47 [.i .u16] (.s):=aB Tryz.func47 Tryz.call47 [] [] [] [] (iu n)
def N5(n:Nat):LP Tryz.prog Tryz.f82.ntmps:=cr [] [] 0 (sb (acM [] [] Tryz.f82) 0) false ⟨[(0,.s),(1,.i .u8),(2,.i .u8),(7,.i .i64),(8,.i .i64)],[],0,0,0,0⟩ [] [⟨.exit 0,⟨[(7,.i .i64)],[],0,0,0,0⟩⟩] (eB n) n
def c82(n:Nat):PF Tryz.prog 82 [.s,.i .u8,.i .u8] (.i .i64):=aB Tryz.func82 Tryz.call82 [] [N5 n] [] [] (ft n)
def NL(n:Nat):LP Tryz.prog Tryz.f83.ntmps:=cr [] [] 0 (sb (acM [] [] Tryz.f83) 0) false ⟨[(0,.s),(1,.i .i64),(6,.i .i64),(7,.i .i64)],[],0,0,0,0⟩ [] [⟨.ret,⟨[(4,.i .i64),(5,.i .i64)],[],0,0,0,0⟩⟩,⟨.exit 0,⟨[(6,.i .i64)],[],0,0,0,0⟩⟩] (dh n) n
def c83(n:Nat):PF Tryz.prog 83 q21 (.tp [.i .i64,.i .i64]):=aB Tryz.func83 Tryz.call83 [] [NL n] [] [] (dc n)
def c48(n:Nat):PF Tryz.prog 48 [.ag q32] (.i .i64):=aB Tryz.func48 Tryz.call48 [(c82 n).e,(c83 n).e] [] [] [] (bL n)
def c17E(n:Nat):List (FE Tryz.prog):=[(c47 n).e,(c48 n).e]
def NU(n:Nat):LP Tryz.prog Tryz.f17.ntmps:=cr (c17E n) [] 0 (sb (acM [] [] Tryz.f17) 0) false ⟨[(2,.p 1 0),(3,.p 50 0),(4,.i .i64),(5,.i .i64),(6,.s),(7,.i .i64)],[(1,.cells q32),(50,.cells q32)],162,0,0,0⟩ [] [⟨.exit 1,⟨[(2,.p 1 0),(3,.p 50 0),(6,.s)],[(1,.cells q32),(50,.cells q32)],162,0,0,0⟩⟩] (dT n) n
def c17(n:Nat):PF Tryz.prog 17 [.ag [.i .u8,.b,.i .u16,.i .u8,.i .u8]] (.ag q32):=aB Tryz.func17 Tryz.call17 (c17E n) [NU n] [] [] (fU n)
def c49(n:Nat):PF Tryz.prog 49 [.i .i64] (.s):=aB Tryz.func49 Tryz.call49 [] [] [] [] (aL n)
def c18(n:Nat):PF Tryz.prog 18 [.ag q34] (.s):=aB Tryz.func18 Tryz.call18 [(c49 n).e] [] [] [] (dR n)
def c19E(n:Nat):List (FE Tryz.prog):=[(c49 n).e]
def Nw(n:Nat):LP Tryz.prog Tryz.f19.ntmps:=cr (c19E n) [] 0 (sb (acM [] [] Tryz.f19) 0) false ⟨[(1,.p 0 0),(3,.i .i64)],[(0,.cells q20)],1,0,0,0⟩ [] [⟨.ret,⟨[(2,.i .i64)],[],1,0,0,0⟩⟩,⟨.exit 0,⟨[],[],1,0,0,0⟩⟩] (aZ n) n
def c19(n:Nat):PF Tryz.prog 19 q64 (.i .i64):=aB Tryz.func19 Tryz.call19 (c19E n) [Nw n] [] [] (eA n)
def c20(n:Nat):PF Tryz.prog 20 [.ag q34,.s] (.s):=aB Tryz.func20 Tryz.call20 [(c49 n).e] [] [] [] (fe n)
def c21(n:Nat):PF Tryz.prog 21 q64 (.i .i64):=aB Tryz.func21 Tryz.call21 [] [] [] [] (am n)
def c4(n:Nat):PF Tryz.prog 4 [.ag q34] (.ag q20):=aB Tryz.func4 Tryz.call4 [(c17 n).e,(c18 n).e,(c19 n).e,(c20 n).e,(c21 n).e] [] [0] [] (fV n)
noncomputable def HA(_n:Nat):Ent:=JJ 66 216
theorem FU(n:Nat):cN Tryz.prog (HA n):=Hv Tryz.call66 (λs n hl h w=>(Tryz.strconv_Atoi s n hl h w).mono λe w' ⟨h1,t,h2⟩=>⟨h1,h2▸mb _ _ _⟩) (λs hl h w hg=>HW s hl h w hg)
def c66(n:Nat):FE Tryz.prog:=libF (FU n)
def c85(n:Nat):PF Tryz.prog 85 [.i .i64] (.i .i64):=aB Tryz.func85 Tryz.call85 [] [] [] [] (cH n)
theorem pure_seasons_Check(n:Nat):∀a r,cH n a=some r->il Tryz.prog 85 (argP [.i .i64] a) (encP (.i .i64) r):=λa r h=>(c85 n).ok a r h
def c51(n:Nat):PF Tryz.prog 51 q64 (.tp [.i .i64,.b]):=aB Tryz.func51 Tryz.call51 [(c66 n),(c85 n).e] [] [] [] (aU n)
def c225(_n:Nat):FE Tryz.prog:=libF (Ea Tryz.func225 (by kernel_rfl) (by kernel_rfl) (by kernel_rfl) (by kernel_rfl))
def c172(n:Nat):PF Tryz.prog 172 [.s,.i .u8] (.i .i64):=aB Tryz.func172 Tryz.call172 [(c225 n)] [] [] [] (bK n)
def c201(n:Nat):PF Tryz.prog 201 [.s,.i .u8] (.i .i64):=aB Tryz.func201 Tryz.call201 [(c172 n).e] [] [] [] (bT n)
def c266(n:Nat):PF Tryz.prog 266 [.i .i32] (.b):=aB Tryz.func266 Tryz.call266 [] [] [] [] (cw n)
def FY(n:Nat):List (FE Tryz.prog):=[(c201 n).e,(c266 n).e]
def MO(n:Nat):LP Tryz.prog Tryz.f235.ntmps:=cr (FY n) [] 0 (sb (acM [] [] Tryz.f235) 0) false ⟨[(175,.p 0 0)],[(0,.iter)],1,0,0,0⟩ [] [⟨.ret,⟨[(4,.i .i64)],[],1,0,0,0⟩⟩,⟨.exit 9,⟨[],[],1,0,0,0⟩⟩] (ck n) n
def Nc(n:Nat):LP Tryz.prog Tryz.f235.ntmps:=cr (FY n) [] 2 (sb (sb (acM [] [] Tryz.f235) 1).body 2) false ⟨q74,[],128,0,0,0⟩ [] [⟨.exit 3,⟨[(8,.i .i64),(9,.i .i64)],[],128,0,0,0⟩⟩] (jz n) n
def J5(n:Nat):LP Tryz.prog Tryz.f235.ntmps:=cr (FY n) [] 2 (sb (sb (acM [] [] Tryz.f235) 1).body 2) false ⟨q74,[],56,0,0,0⟩ [] [⟨.exit 3,⟨[(8,.i .i64),(9,.i .i64)],[],56,0,0,0⟩⟩] (jn n) n
def Nb(n:Nat):LP Tryz.prog Tryz.f235.ntmps:=cr (FY n) [altL (Nc n) (J5 n) rfl] 1 (sb (acM [] [] Tryz.f235) 1) false ⟨[(0,.s),(7,.s),(8,.i .i64),(9,.i .i64)],[],0,0,0,0⟩ [] [⟨.ret,⟨[(4,.i .i64)],[],0,0,0,0⟩⟩,⟨.exit 1,⟨[],[],0,0,0,0⟩⟩] (cq n) n
def c235(n:Nat):PF Tryz.prog 235 [.s,.i .i32] (.i .i64):=aB Tryz.func235 Tryz.call235 (FY n) [MO n,Nb n,noL 3 (sb (acM [] [] Tryz.f235) 3)] [] [] (cG n)
def c189(n:Nat):PF Tryz.prog 189 [.s,.i .i32] (.b):=aB Tryz.func189 Tryz.call189 [(c235 n).e] [] [] [] (cn n)
def c188(n:Nat):FF Tryz.prog 188 [.i .i32,.p 0 0] [.cells [.s]] 1 1 [⟨.b,[],[],false⟩]:=funC Tryz.func188 Tryz.call188 [(c189 n).e] [] [] [] [0] (gH n)
def MQ(n:Nat):List (FE Tryz.prog):=[(c188 n).e]
def K6(n:Nat):LP Tryz.prog Tryz.f234.ntmps:=cr (MQ n) [] 0 (sb (acM [] [] Tryz.f234) 0) false ⟨[(1,.fn 188 [.p 0 0]),(2,.b),(10,.p 1 0)],[(0,.cells [.s]),(1,.iter)],2,1,1,1⟩ [] [⟨.ret,⟨[(6,.i .i64)],[],2,1,1,1⟩⟩,⟨.exit 0,⟨[],[],2,1,1,1⟩⟩] (bG n) n
def c234(n:Nat):FF Tryz.prog 234 [.s,.fn 188 [.p 0 0],.b] [.cells [.s]] 1 1 [⟨.i .i64,[],[],false⟩]:=funC Tryz.func234 Tryz.call234 (MQ n) [K6 n] [] [] [0] (iJ n)
def c187(n:Nat):FF Tryz.prog 187 [.s,.fn 188 [.p 0 0]] [.cells [.s]] 1 1 [⟨.i .i64,[],[],false⟩]:=funC Tryz.func187 Tryz.call187 [(c234 n).e] [] [] [] [0] (iM n)
def c137(n:Nat):PF Tryz.prog 137 [.s,.s] (.b):=aB Tryz.func137 Tryz.call137 [(c187 n).e] [] [] [] (dZ n)
def MW(n:Nat):LP Tryz.prog Tryz.f191.ntmps:=cr [] [] 0 (sb (acM [] [] Tryz.f191) 0) false ⟨[(0,.s),(1,.i .u8)],[],0,0,0,0⟩ [] [⟨.exit 0,⟨[(0,.s)],[],0,0,0,0⟩⟩] (bV n) n
def c191(n:Nat):PF Tryz.prog 191 [.s,.i .u8] (.s):=aB Tryz.func191 Tryz.call191 [] [MW n] [] [] (dQ n)
def M6(n:Nat):LP Tryz.prog Tryz.f190.ntmps:=cr [] [] 0 (sb (acM [] [] Tryz.f190) 0) false ⟨[(0,.s),(1,.i .u8)],[],0,0,0,0⟩ [] [⟨.exit 0,⟨[(0,.s)],[],0,0,0,0⟩⟩] (dl n) n
def c190(n:Nat):PF Tryz.prog 190 [.s,.i .u8] (.s):=aB Tryz.func190 Tryz.call190 [] [M6 n] [] [] (ei n)
def c138(n:Nat):PF Tryz.prog 138 [.s,.sk [48]] (.s):=aB Tryz.func138 Tryz.call138 [(c191 n).e,(c190 n).e] [] [] [] (kA n)
def c118(n:Nat):PF Tryz.prog 118 [.s,.sk [88]] (.i .i64):=aB Tryz.func118 Tryz.call118 [(c172 n).e] [noL 0 (sb (acM [] [] Tryz.f118) 0)] [] [] (fM n)
def c74(n:Nat):PF Tryz.prog 74 [.s,.sk [88]] (.i .i64):=aB Tryz.func74 Tryz.call74 [(c118 n).e] [] [] [] (jE n)
def c37(n:Nat):PF Tryz.prog 37 [.s,.sk [88]] (.b):=aB Tryz.func37 Tryz.call37 [(c74 n).e] [] [] [] (eY n)
def c10(n:Nat):PF Tryz.prog 10 [.ag q32] (.b):=aB Tryz.func10 Tryz.call10 [(c37 n).e] [] [] [] (ba n)
noncomputable def FX(_n:Nat):Ent:=EW 140
theorem BO(n:Nat):cN Tryz.prog (FX n):=E2 Tryz.call140 λs h v hv w=>(Tryz.strconv_ParseInt_10_at64_ok s h v hv w).mono λe w' ⟨h1,h2⟩=>⟨h1,h2.elim (λh=>h▸RowKit.Below.refl _ _) (λ⟨t,h⟩=>h▸mb _ _ _)⟩
def c140(n:Nat):FE Tryz.prog:=libF (BO n)
def N6(n:Nat):LP Tryz.prog Tryz.f87.ntmps:=cr [] [] 0 (sb (acM [] [] Tryz.f87) 0) false ⟨[(4,.i .i64),(9,.i .i64),(10,.i .i64)],[],0,0,0,0⟩ [] [⟨.exit 0,⟨[(4,.i .i64)],[],0,0,0,0⟩⟩] (ia n) n
def c87(n:Nat):PF Tryz.prog 87 [.i .i64] (.tp [.i .i64,.i .i64]):=aB Tryz.func87 Tryz.call87 [] [N6 n] [] [] (kW n)
def c197(n:Nat):PF Tryz.prog 197 [.i .i64] (.i .u64):=aB Tryz.func197 Tryz.call197 [] [] [] [] (pw n)
def c183(n:Nat):PF Tryz.prog 183 [.i .u64,.i .u64] (.tp [.i .u64,.i .u64]):=aB Tryz.func183 Tryz.call183 [] [] [] [] (ig n)
def c198(n:Nat):PF Tryz.prog 198 [.i .u64,.b] (.tp [.i .i64,.i .i64]):=aB Tryz.func198 Tryz.call198 [] [] [] [] (ow n)
def c141(n:Nat):PF Tryz.prog 141 [.i .i64,.i .i64] (.tp [.i .i64,.i .i64]):=aB Tryz.func141 Tryz.call141 [(c197 n).e,(c183 n).e,(c198 n).e] [] [] [] (rE n)
def c91(n:Nat):PF Tryz.prog 91 [.ag q32] (.tp [.i .i64,.i .i64]):=aB Tryz.func91 Tryz.call91 [(c140 n),(c87 n).e,(c141 n).e] [] [] [] (cD n)
def c139(n:Nat):PF Tryz.prog 139 [.ag q32] (.b):=aB Tryz.func139 Tryz.call139 [(c137 n).e,(c91 n).e] [] [] [] (aH n)
def c90(n:Nat):PF Tryz.prog 90 [.ag q32] (.i .i64):=aB Tryz.func90 Tryz.call90 [(c137 n).e,(c138 n).e,(c10 n).e,(c139 n).e] [] [] [] (bw n)
theorem pure_yearforms_Check(n:Nat):∀a r,bw n a.1 a.2.1 a.2.2.1 a.2.2.2.1 a.2.2.2.2=some r->il Tryz.prog 90 (argP [.ag q32] a) (encP (.i .i64) r):=λa r h=>(c90 n).ok a r h
def c55(n:Nat):PF Tryz.prog 55 [.ag q32] (.tp [.i .i64,.i .i64]):=aB Tryz.func55 Tryz.call55 [(c90 n).e,(c10 n).e,(c91 n).e] [] [] [] (dE n)
noncomputable def vj(l:List V):Option (Int):=match l with
 | [.i .i64 a0]=>some (a0)
 | _=>none
noncomputable def D5(n:Nat):Ent:=yu 169 vj (λa=>fq n a) (λr=>.tp [.i .i64 r.1,.i .i64 r.2.1,.i .i64 r.2.2])
theorem BM(n:Nat):cN Tryz.prog (D5 n):=o6 (arg:=λa=>[.i .i64 a]) Tryz.call169 (λl a h=>by
 unfold vj at h
 split at h
 ·cases h;rfl
 ·cases h) (λa=>rfl) (λa r h=>oh n (λx r h=>pure_seasons_Check n x r h) a r h)
def c169(n:Nat):FE Tryz.prog:=libF (BM n)
def c119(n:Nat):PF Tryz.prog 119 [.i .i64] (.i .i64):=aB Tryz.func119 Tryz.call119 [] [] [] [] (eP n)
def c75(n:Nat):PF Tryz.prog 75 [.i .i64,.i .i64] (.i .i64):=aB Tryz.func75 Tryz.call75 [(c119 n).e] [] [] [] (gW n)
def c177(n:Nat):PF Tryz.prog 177 [.i .i64,.i .i64] (.tp [.i .i64,.i .i64]):=aB Tryz.func177 Tryz.call177 [] [] [] [] (BG n)
def c122(n:Nat):PF Tryz.prog 122 [.i .i64,.i .i64] (.tp [.i .i64,.i .i64]):=aB Tryz.func122 Tryz.call122 [(c177 n).e] [] [] [] (iv n)
theorem pure_ints_Div(n:Nat):∀a r,iv n a.1 a.2=some r->il Tryz.prog 122 (argP [.i .i64,.i .i64] a) (encP (.tp [.i .i64,.i .i64]) r):=λa r h=>(c122 n).ok a r h
noncomputable def vi(l:List V):Option (Int):=match l with
 | [.i .i64 a0]=>some (a0)
 | _=>none
noncomputable def FQ(n:Nat):Ent:=yu 176 vi (λa=>dq n a) (λr=>.i .i64 r)
theorem CB(n:Nat):cN Tryz.prog (FQ n):=o6 (arg:=λa=>[.i .i64 a]) Tryz.call176 (λl a h=>by
 unfold vi at h
 split at h
 ·cases h;rfl
 ·cases h) (λa=>rfl) (λa r h=>pZ n (λx y r h=>pure_ints_Div n (x,y) r h) a r h)
def c176(n:Nat):FE Tryz.prog:=libF (CB n)
def c120(n:Nat):PF Tryz.prog 120 [.i .i64] (.i .i64):=aB Tryz.func120 Tryz.call120 [(c176 n)] [] [] [] (gP n)
def c76(n:Nat):PF Tryz.prog 76 [.i .i64] (.tp [.i .i64,.i .i64]):=aB Tryz.func76 Tryz.call76 [(c119 n).e,(c120 n).e] [] [] [] (gR n)
def c121(n:Nat):PF Tryz.prog 121 [.i .i64] (.tp [.b,.i .i64]):=aB Tryz.func121 Tryz.call121 [(c119 n).e,(c176 n)] [] [] [] (gS n)
theorem pure_years_Leap(n:Nat):∀a r,gS n a=some r->il Tryz.prog 121 (argP [.i .i64] a) (encP (.tp [.b,.i .i64]) r):=λa r h=>(c121 n).ok a r h
noncomputable def xW(l:List V):Option (Int×Int):=match l with
 | [.i .i64 a0,.i .i64 a1]=>some (a0,a1)
 | _=>none
noncomputable def GG(n:Nat):Ent:=yu 77 xW (λa=>cf n a.1 a.2) (λr=>.i .i64 r)
theorem FC(n:Nat):cN Tryz.prog (GG n):=o6 (arg:=λa=>[.i .i64 a.1,.i .i64 a.2]) Tryz.call77 (λl a h=>by
 unfold xW at h
 split at h
 ·cases h;rfl
 ·cases h) (λa=>rfl) (λa r h=>pf n (λx r h=>pure_years_Leap n x r h) a.1 a.2 r h)
def c77(n:Nat):FE Tryz.prog:=libF (FC n)
def c41E(n:Nat):List (FE Tryz.prog):=[(c75 n).e,(c76 n).e,(c77 n)]
def N4(n:Nat):LP Tryz.prog Tryz.f41.ntmps:=cr (c41E n) [] 0 (sb (acM [] [] Tryz.f41) 0) false ⟨[(0,.i .i64),(7,.i .i64),(22,.i .i64),(23,.i .i64)],[],0,0,0,0⟩ [] [⟨.exit 0,⟨[(7,.i .i64)],[],0,0,0,0⟩⟩] (aV n) n
def c41(n:Nat):PF Tryz.prog 41 [.i .i64,.i .i64] (.tp [.i .i64,.i .i64]):=aB Tryz.func41 Tryz.call41 (c41E n) [N4 n] [] [] (cL n)
noncomputable def vg(l:List V):Option (Int×Int):=match l with
 | [.i .i64 a0,.i .i64 a1]=>some (a0,a1)
 | _=>none
noncomputable def E0(n:Nat):Ent:=yu 224 vg (λa=>nq n a.1 a.2) (λr=>.tp [.i .i64 r.1,.i .i64 r.2])
theorem BK(n:Nat):cN Tryz.prog (E0 n):=o6 (arg:=λa=>[.i .i64 a.1,.i .i64 a.2]) Tryz.call224 (λl a h=>by
 unfold vg at h
 split at h
 ·cases h;rfl
 ·cases h) (λa=>rfl) (λa r h=>wc n a.1 a.2 r h)
def c224(n:Nat):FE Tryz.prog:=libF (BK n)
def c123(n:Nat):PF Tryz.prog 123 [.i .i64,.i .i64] (.tp [.i .i64,.i .i64]):=aB Tryz.func123 Tryz.call123 [] [] [] [] (oY n)
def c170(n:Nat):PF Tryz.prog 170 q22 (.tp q22):=aB Tryz.func170 Tryz.call170 [(c75 n).e,(c224 n),(c122 n).e,(c123 n).e,(c119 n).e] [] [] [] (kU n)
def c116(n:Nat):PF Tryz.prog 116 [.i .i64,.i .i64] (.tp [.i .i64,.i .i64]):=aB Tryz.func116 Tryz.call116 [(c41 n).e,(c77 n)] [] [] [] (fY n)
def c111(n:Nat):PF Tryz.prog 111 [.i .i64,.i .i64] (.tp [.ag q49,.i .i64]):=aB Tryz.func111 Tryz.call111 [(c169 n),(c41 n).e,(c170 n).e,(c116 n).e] [] [] [] (gM n)
def c134(n:Nat):PF Tryz.prog 134 q64 (.b):=aB Tryz.func134 Tryz.call134 [(c90 n).e,(c51 n).e,(c10 n).e,(c55 n).e,(c111 n).e] [] [] [] (dF n)
def M3(n:Nat):LP Tryz.prog Tryz.f135.ntmps:=cr [] [] 0 (sb (acM [] [] Tryz.f135) 0) false ⟨[(0,.s),(1,.i .i64),(5,.i .i64)],[],0,0,0,0⟩ [] [⟨.ret,⟨[(4,.b)],[],0,0,0,0⟩⟩,⟨.exit 0,⟨[],[],0,0,0,0⟩⟩] (bP n) n
def c135(n:Nat):PF Tryz.prog 135 q21 (.b):=aB Tryz.func135 Tryz.call135 [] [M3 n] [] [] (bM n)
def NE(n:Nat):LP Tryz.prog Tryz.f62.ntmps:=cr [] [] 0 (sb (acM [] [] Tryz.f62) 0) false ⟨[(3,.i .i64),(10,.ag [.s,.s]),(11,.i .i64)],[],1,0,0,0⟩ [] [⟨.exit 0,⟨[(3,.i .i64)],[],1,0,0,0⟩⟩] (bj n) n
def c62(n:Nat):PF Tryz.prog 62 q64 (.i .i64):=aB Tryz.func62 Tryz.call62 [] [NE n] [] [] (aK n)
def c186(n:Nat):PF Tryz.prog 186 [.i .u8] (.i .i64):=aB Tryz.func186 Tryz.call186 [] [] [] [] (eI n)
def M9(n:Nat):List (FE Tryz.prog):=[(c186 n).e]
def LR(n:Nat):LP Tryz.prog Tryz.f136.ntmps:=cr (M9 n) [] 0 (sb (acM [] [] Tryz.f136) 0) false ⟨[(1,.i .i64),(13,.ai .u8 3),(14,.i .i64)],[],1,0,0,0⟩ [] [⟨.ret,⟨[(4,.i .i64)],[],1,0,0,0⟩⟩,⟨.exit 0,⟨[],[],1,0,0,0⟩⟩] (eC n) n
def c136(n:Nat):PF Tryz.prog 136 [.ai .u8 3,.i .i64] (.i .i64):=aB Tryz.func136 Tryz.call136 (M9 n) [LR n] [] [] (cM n)
def c84(n:Nat):PF Tryz.prog 84 q64 (.i .i64):=aB Tryz.func84 Tryz.call84 [(c51 n).e,(c134 n).e,(c135 n).e,(c62 n).e,(c136 n).e] [] [] [] (fS n)
def c86(n:Nat):PF Tryz.prog 86 q21 (.b):=aB Tryz.func86 Tryz.call86 [] [] [] [] (ij n)
def c52E(n:Nat):List (FE Tryz.prog):=[(c86 n).e]
def NC(n:Nat):LP Tryz.prog Tryz.f52.ntmps:=cr (c52E n) [] 0 (sb (acM [] [] Tryz.f52) 0) false ⟨[(0,.s),(5,.ws 0),(7,.i .i64),(8,.i .i64)],q58,1,0,0,0⟩ [.nilT 5 0 [.i .i64]] [⟨.exit 0,⟨[(5,.ws 0)],q58,1,0,0,0⟩⟩] (dL n) n
def c52(n:Nat):FF Tryz.prog 52 q21 [] 0 0 [⟨.ws 0,q58,[0],false⟩]:=funC Tryz.func52 Tryz.call52 (c52E n) [NC n] [] [] [] (di n)
def c23(n:Nat):FF Tryz.prog 23 q64 [] 0 0 [⟨.ag q26,[(0,.rows [.i .i64]),(1,.rows [.i .i64])],[0,1],false⟩]:=funC Tryz.func23 Tryz.call23 [(c51 n).e,(c52 n).e] [] [] [] [] (gN n)
def c69(n:Nat):FF Tryz.prog 69 [.ws 0] q63 1 1 [⟨.ws 1,[(1,.rows [.i .i64])],[1],false⟩]:=funC Tryz.func69 Tryz.call69 [] [] [] [] [0] (cX n)
def N7(n:Nat):LP Tryz.prog Tryz.f70.ntmps:=cr [] [] 0 (sb (acM [] [] Tryz.f70) 0) false ⟨[(0,.ws 0),(2,.i .i64),(3,.i .i64)],q58,1,1,0,1⟩ [] [⟨.exit 0,⟨[],q58,1,1,0,1⟩⟩] (aE n) n
def c70(n:Nat):FF Tryz.prog 70 [.ws 0] q63 0 1 [⟨.tp [],q58,[],false⟩]:=funC Tryz.func70 Tryz.call70 [] [N7 n] [] [] [0] (cA n)
def NM(n:Nat):LP Tryz.prog Tryz.f38.ntmps:=cr [] [] 0 (sb (acM [] [] Tryz.f38) 0) false ⟨[(0,.s),(9,.p 0 0)],[(0,.iter)],1,0,0,0⟩ [] [⟨.ret,⟨[(2,.i .i64)],[],1,0,0,0⟩⟩,⟨.exit 0,⟨[(0,.s)],[],1,0,0,0⟩⟩] (fm n) n
def c38(n:Nat):PF Tryz.prog 38 [.s] (.i .i64):=aB Tryz.func38 Tryz.call38 [] [NM n] [] [] (eU n)
def Ld(n:Nat):LP Tryz.prog Tryz.f199.ntmps:=cr [] [] 0 (sb (acM [] [] Tryz.f199) 0) false ⟨[(1,.i .u8),(5,.i .i64),(9,.ws 0),(10,.i .i64),(11,.i .i64)],[(0,.rows [.i .u8])],1,0,0,0⟩ [] [⟨.exit 0,⟨[(5,.i .i64)],[],1,0,0,0⟩⟩] (eo n) n
def c199(n:Nat):PF Tryz.prog 199 [.s,.i .u8] (.i .i64):=aB Tryz.func199 Tryz.call199 [] [Ld n] [] [] (ji n)
def c142(n:Nat):PF Tryz.prog 142 [.s] (.tp [.i .i64,.i .i64]):=aB Tryz.func142 Tryz.call142 [(c38 n).e,(c199 n).e] [] [] [] (lw n)
def c53(n:Nat):PF Tryz.prog 53 [.i .i64] (.i .i64):=aB Tryz.func53 Tryz.call53 [(c87 n).e] [] [] [] (km n)
def c39(n:Nat):PF Tryz.prog 39 q21 (.b):=aB Tryz.func39 Tryz.call39 [(c53 n).e] [] [] [] (fQ n)
def Nv(n:Nat):LP Tryz.prog Tryz.f40.ntmps:=cr [] [] 0 (sb (acM [] [] Tryz.f40) 0) false ⟨[(1,.i .i64),(4,.p 0 0),(5,.i .i64)],[(0,.ints .u8 18)],1,0,0,0⟩ [] [⟨.exit 0,⟨[(4,.p 0 0)],[(0,.ints .u8 18)],1,0,0,0⟩⟩] (fp n) n
def c40(n:Nat):PF Tryz.prog 40 q21 (.ai .u8 18):=aB Tryz.func40 Tryz.call40 [] [Nv n] [] [] (gJ n)
def c200(n:Nat):PF Tryz.prog 200 [.s,.ai .u8 18] (.i .i64):=aB Tryz.func200 Tryz.call200 [(c199 n).e] [] [] [] (dX n)
def HU(n:Nat):List (FE Tryz.prog):=[(c40 n).e,(c200 n).e]
def La(n:Nat):LP Tryz.prog Tryz.f143.ntmps:=cr (HU n) [] 0 (sb (acM [] [] Tryz.f143) 0) false q57 [] [⟨.exit 0,q57⟩] (dC n) n
def Ni(n:Nat):LP Tryz.prog Tryz.f143.ntmps:=cr (HU n) [] 1 (sb (acM [] [] Tryz.f143) 1) false ⟨[(0,.s),(2,.b),(8,.i .u8),(9,.i .u8),(10,.p 0 0),(11,.p 1 0),(12,.i .i64)],[(0,.ints .u8 18),(1,.ints .u8 18)],74,0,0,0⟩ [] [⟨.ret,⟨[(6,.i .i64),(7,.i .i64)],[],74,0,0,0⟩⟩,⟨.exit 2,⟨[(0,.s),(2,.b),(8,.i .u8),(11,.p 1 0),(12,.i .i64)],[(1,.ints .u8 18)],74,0,0,0⟩⟩] (bz n) n
def Ly(n:Nat):LP Tryz.prog Tryz.f143.ntmps:=cr (HU n) [] 2 (sb (acM [] [] Tryz.f143) 2) false ⟨[(0,.s),(8,.i .u8),(11,.p 1 0),(12,.i .i64)],[(1,.ints .u8 18)],74,0,0,0⟩ [] [⟨.exit 5,⟨[(0,.s),(11,.p 1 0)],[(1,.ints .u8 18)],74,0,0,0⟩⟩] (aR n) n
def c143(n:Nat):PF Tryz.prog 143 [.s,.i .i64,.b] (.tp [.i .i64,.i .i64]):=aB Tryz.func143 Tryz.call143 (HU n) [La n,Ni n,Ly n] [] [] (bX n)
def c92(n:Nat):PF Tryz.prog 92 q21 (.tp [.i .i64,.i .i64]):=aB Tryz.func92 Tryz.call92 [(c38 n).e,(c142 n).e,(c39 n).e,(c143 n).e] [] [] [] (nA n)
def c144(n:Nat):PF Tryz.prog 144 [.s] (.tp [.i .i64,.i .i64]):=aB Tryz.func144 Tryz.call144 [(c38 n).e,(c199 n).e] [] [] [] (ja n)
def c93(n:Nat):PF Tryz.prog 93 q21 (.tp [.i .i64,.i .i64]):=aB Tryz.func93 Tryz.call93 [(c38 n).e,(c39 n).e,(c144 n).e,(c143 n).e] [] [] [] (m7 n)
def c56(n:Nat):PF Tryz.prog 56 [.s,.i .i64,.b,.i .i64] (.tp [.i .i64,.b]):=aB Tryz.func56 Tryz.call56 [(c92 n).e,(c93 n).e] [] [] [] (dG n)
def c25(n:Nat):FF Tryz.prog 25 [.ag q26,.i .i64,.b] q70 2 2 [⟨.tp [.i .i64,.b],[],[],false⟩]:=funC Tryz.func25 Tryz.call25 [(c10 n).e,(c55 n).e,(c56 n).e] [] [] [] [0,1] (aC n)
def c71(n:Nat):FF Tryz.prog 71 [.i .i64,.i .i64,.p 0 0] [.cells [.b]] 1 1 [⟨.b,[],[],false⟩]:=funC Tryz.func71 Tryz.call71 [] [] [] [] [0] (bE n)
def c46(n:Nat):PF Tryz.prog 46 [.i .i64,.i .i64] (.tp [.i .i64,.i .i64]):=aB Tryz.func46 Tryz.call46 [(c75 n).e,(c77 n)] [] [] [] (kX n)
def c26(n:Nat):FF Tryz.prog 26 [.ag q26,.i .i64,.i .i64] q70 2 2 [⟨.i .i64,[],[],false⟩]:=funC Tryz.func26 Tryz.call26 [(c46 n).e] [] [] [] [0,1] (co n)
def c33E(n:Nat):List (FE Tryz.prog):=[(c69 n).e,(c70 n).e,(c25 n).e,(c71 n).e,(c26 n).e]
def NJ(n:Nat):LP Tryz.prog Tryz.f33.ntmps:=qZ (c33E n) [] 1003 (sb (acM [] [3,17,20,23,30] Tryz.f33) 1003) false ⟨[(3,.p 2 0),(4,.p 3 0),(5,.p 4 0),(6,.p 5 0),(8,.ik .i64 1),(9,.ws 0),(10,.ws 1),(25,.b)],q54,62,2,2,2⟩ [⟨.nrm,⟨[(3,.p 2 0),(4,.p 3 0),(5,.p 4 0),(6,.p 5 0),(8,.ik .i64 (-1)),(9,.ws 62),(10,.ws 63)],[(0,.rows [.i .i64]),(1,.rows [.i .i64]),(2,.cells q26),(3,.cells q22),(4,.cells [.b]),(5,.cells [.ik .i64 0,.ik .i64 0,.ik .i64 0]),(62,.rows [.i .i64]),(63,.rows [.i .i64])],64,2,2,2⟩⟩,⟨.nrm,⟨[(3,.p 2 0),(4,.p 3 0),(5,.p 4 0),(6,.p 5 0),(8,.ik .i64 1),(9,.ws 0),(10,.ws 1)],q54,62,2,2,2⟩⟩] (dP n)
def I3(n:Nat):LP Tryz.prog Tryz.f33.ntmps:=qZ (c33E n) [] 1020 (sb (sb (sb (sb (acM [] [3,17,20,23,30] Tryz.f33) 0).body 1).body 1017) 1020) false ⟨[(3,.p 2 0),(4,.p 3 0),(5,.p 4 0),(6,.p 5 0),(8,.i .i64),(9,.ws 62),(10,.ws 63),(11,.fn 71 [.p 4 0]),(12,.i .i64),(15,.i .i64),(16,.b),(53,.ws 62),(54,.i .i64),(55,.i .i64)],q12,64,2,2,2⟩ [⟨.nrm,⟨[(3,.p 2 0),(4,.p 3 0),(5,.p 4 0),(6,.p 5 0),(8,.i .i64),(9,.ws 62),(10,.ws 63),(11,.fn 71 [.p 4 0]),(12,.i .i64),(15,.i .i64),(16,.b),(53,.ws 62),(54,.i .i64),(55,.i .i64),(76,.b)],q12,64,2,2,2⟩⟩] (dJ n)
def DF(n:Nat):LP Tryz.prog Tryz.f33.ntmps:=qZ (c33E n) [] 1020 (sb (sb (sb (sb (acM [] [3,17,20,23,30] Tryz.f33) 0).body 1).body 1017) 1020) false ⟨[(3,.p 2 0),(4,.p 3 0),(5,.p 4 0),(6,.p 5 0),(8,.i .i64),(9,.ws 0),(10,.ws 1),(11,.fn 71 [.p 4 0]),(12,.i .i64),(15,.i .i64),(16,.b),(53,.ws 0),(54,.i .i64),(55,.i .i64)],q15,62,2,2,2⟩ [⟨.nrm,⟨[(3,.p 2 0),(4,.p 3 0),(5,.p 4 0),(6,.p 5 0),(8,.i .i64),(9,.ws 0),(10,.ws 1),(11,.fn 71 [.p 4 0]),(12,.i .i64),(15,.i .i64),(16,.b),(53,.ws 0),(54,.i .i64),(55,.i .i64),(76,.b)],q15,62,2,2,2⟩⟩] (dk n)
def Jb(n:Nat):LP Tryz.prog Tryz.f33.ntmps:=qZ (c33E n) [] 1023 (sb (sb (sb (sb (acM [] [3,17,20,23,30] Tryz.f33) 0).body 1).body 1017) 1023) false q42 [⟨.nrm,q42⟩] (dI n)
def Eh(n:Nat):LP Tryz.prog Tryz.f33.ntmps:=qZ (c33E n) [] 1023 (sb (sb (sb (sb (acM [] [3,17,20,23,30] Tryz.f33) 0).body 1).body 1017) 1023) false q44 [⟨.nrm,q44⟩] (de n)
def IG(n:Nat):LP Tryz.prog Tryz.f33.ntmps:=qZ (c33E n) [] 1030 (sb (sb (sb (sb (sb (acM [] [3,17,20,23,30] Tryz.f33) 0).body 1).body 1017) 2).body 1030) false ⟨[(3,.p 2 0),(4,.p 3 0),(5,.p 4 0),(6,.p 5 0),(8,.i .i64),(9,.ws 62),(10,.ws 63),(11,.fn 71 [.p 4 0]),(12,.i .i64),(15,.i .i64),(16,.b),(17,.i .i64),(19,.i .i64),(53,.ws 62),(54,.i .i64),(55,.i .i64),(94,.ws 63),(95,.i .i64),(96,.i .i64)],q12,64,2,2,2⟩ [⟨.nrm,⟨[(3,.p 2 0),(4,.p 3 0),(5,.p 4 0),(6,.p 5 0),(8,.i .i64),(9,.ws 62),(10,.ws 63),(11,.fn 71 [.p 4 0]),(12,.i .i64),(15,.i .i64),(16,.b),(17,.i .i64),(19,.i .i64),(53,.ws 62),(54,.i .i64),(55,.i .i64),(94,.ws 63),(95,.i .i64),(96,.i .i64),(119,.b)],q12,64,2,2,2⟩⟩] (fG n)
def DI(n:Nat):LP Tryz.prog Tryz.f33.ntmps:=qZ (c33E n) [] 1030 (sb (sb (sb (sb (sb (acM [] [3,17,20,23,30] Tryz.f33) 0).body 1).body 1017) 2).body 1030) false ⟨[(3,.p 2 0),(4,.p 3 0),(5,.p 4 0),(6,.p 5 0),(8,.i .i64),(9,.ws 0),(10,.ws 1),(11,.fn 71 [.p 4 0]),(12,.i .i64),(15,.i .i64),(16,.b),(17,.i .i64),(19,.i .i64),(53,.ws 0),(54,.i .i64),(55,.i .i64),(94,.ws 1),(95,.i .i64),(96,.i .i64)],q15,62,2,2,2⟩ [⟨.nrm,⟨[(3,.p 2 0),(4,.p 3 0),(5,.p 4 0),(6,.p 5 0),(8,.i .i64),(9,.ws 0),(10,.ws 1),(11,.fn 71 [.p 4 0]),(12,.i .i64),(15,.i .i64),(16,.b),(17,.i .i64),(19,.i .i64),(53,.ws 0),(54,.i .i64),(55,.i .i64),(94,.ws 1),(95,.i .i64),(96,.i .i64),(119,.b)],q15,62,2,2,2⟩⟩] (eJ n)
def LI(n:Nat):LP Tryz.prog Tryz.f33.ntmps:=cr (c33E n) [altL (IG n) (DI n) rfl] 2 (sb (sb (sb (sb (acM [] [3,17,20,23,30] Tryz.f33) 0).body 1).body 1017) 2) false ⟨[(3,.p 2 0),(4,.p 3 0),(5,.p 4 0),(6,.p 5 0),(8,.i .i64),(9,.ws 62),(10,.ws 63),(11,.fn 71 [.p 4 0]),(12,.i .i64),(15,.i .i64),(16,.b),(17,.i .i64),(53,.ws 62),(54,.i .i64),(55,.i .i64),(94,.ws 63),(95,.i .i64),(96,.i .i64)],q12,64,2,2,2⟩ [] [⟨.ret,q55⟩,⟨.exit 4,q25⟩] (bh n) n
def IT(n:Nat):LP Tryz.prog Tryz.f33.ntmps:=cr (c33E n) [altL (IG n) (DI n) rfl] 2 (sb (sb (sb (sb (acM [] [3,17,20,23,30] Tryz.f33) 0).body 1).body 1017) 2) false ⟨[(3,.p 2 0),(4,.p 3 0),(5,.p 4 0),(6,.p 5 0),(8,.i .i64),(9,.ws 0),(10,.ws 1),(11,.fn 71 [.p 4 0]),(12,.i .i64),(15,.i .i64),(16,.b),(17,.i .i64),(53,.ws 0),(54,.i .i64),(55,.i .i64),(94,.ws 1),(95,.i .i64),(96,.i .i64)],q15,62,2,2,2⟩ [] [⟨.ret,q56⟩,⟨.exit 4,q27⟩] (aX n) n
def IW(n:Nat):LP Tryz.prog Tryz.f33.ntmps:=qZ (c33E n) [altL (I3 n) (DF n) rfl,altL (Jb n) (Eh n) rfl,altL (LI n) (IT n) rfl] 1017 (sb (sb (sb (acM [] [3,17,20,23,30] Tryz.f33) 0).body 1).body 1017) false q25 [⟨.nrm,q25⟩,⟨.ret,q55⟩] (fD n)
def FZ(n:Nat):LP Tryz.prog Tryz.f33.ntmps:=qZ (c33E n) [altL (I3 n) (DF n) rfl,altL (Jb n) (Eh n) rfl,altL (LI n) (IT n) rfl] 1017 (sb (sb (sb (acM [] [3,17,20,23,30] Tryz.f33) 0).body 1).body 1017) false q27 [⟨.nrm,q27⟩,⟨.ret,q56⟩] (eM n)
def L2(n:Nat):LP Tryz.prog Tryz.f33.ntmps:=cr (c33E n) [altL (IW n) (FZ n) rfl] 1 (sb (sb (acM [] [3,17,20,23,30] Tryz.f33) 0).body 1) false q25 [] [⟨.ret,q55⟩,⟨.exit 2,⟨[(3,.p 2 0),(4,.p 3 0),(5,.p 4 0),(6,.p 5 0),(8,.i .i64),(9,.ws 62),(10,.ws 63),(11,.fn 71 [.p 4 0]),(12,.i .i64)],q12,64,2,2,2⟩⟩] (bB n) n
def IH(n:Nat):LP Tryz.prog Tryz.f33.ntmps:=cr (c33E n) [altL (IW n) (FZ n) rfl] 1 (sb (sb (acM [] [3,17,20,23,30] Tryz.f33) 0).body 1) false q27 [] [⟨.ret,q56⟩,⟨.exit 2,⟨[(3,.p 2 0),(4,.p 3 0),(5,.p 4 0),(6,.p 5 0),(8,.i .i64),(9,.ws 0),(10,.ws 1),(11,.fn 71 [.p 4 0]),(12,.i .i64)],q15,62,2,2,2⟩⟩] (bq n) n
def NZ(n:Nat):LP Tryz.prog Tryz.f33.ntmps:=cr (c33E n) [altL (L2 n) (IH n) rfl] 0 (sb (acM [] [3,17,20,23,30] Tryz.f33) 0) false ⟨[(3,.p 2 0),(4,.p 3 0),(5,.p 4 0),(6,.p 5 0),(8,.i .i64),(9,.ws 62),(10,.ws 63),(11,.fn 71 [.p 4 0]),(12,.i .i64),(13,.b)],q12,64,2,2,2⟩ [] [⟨.ret,q55⟩,⟨.exit 0,⟨[(6,.p 5 0)],[(5,.cells q22)],64,2,2,2⟩⟩] (bW n) n
def K2(n:Nat):LP Tryz.prog Tryz.f33.ntmps:=cr (c33E n) [altL (L2 n) (IH n) rfl] 0 (sb (acM [] [3,17,20,23,30] Tryz.f33) 0) false ⟨[(3,.p 2 0),(4,.p 3 0),(5,.p 4 0),(6,.p 5 0),(8,.i .i64),(9,.ws 0),(10,.ws 1),(11,.fn 71 [.p 4 0]),(12,.i .i64),(13,.b)],q15,62,2,2,2⟩ [] [⟨.ret,q56⟩,⟨.exit 0,⟨[(6,.p 5 0)],[(5,.cells q22)],62,2,2,2⟩⟩] (bJ n) n
def c33(n:Nat):FF Tryz.prog 33 [.ag q26,.ag q22,.b] q70 2 2 [⟨.tp [.ag q22,.b],[],[],false⟩]:=funC Tryz.func33 Tryz.call33 (c33E n) [NJ n,altL (NZ n) (K2 n) rfl] [] [3,17,20,23,30] [0,1] (br n)
def c50(n:Nat):PF Tryz.prog 50 q64 (.i .i64):=aB Tryz.func50 Tryz.call50 [(c84 n).e,(c23 n).e,(c33 n).e] [] [] [] (bf n)
def c22(n:Nat):PF Tryz.prog 22 q64 (.i .i64):=aB Tryz.func22 Tryz.call22 [(c50 n).e] [] [] [] (fk n)
def c89(_n:Nat):FE Tryz.prog:=libF (Dx Tryz.func89 (by kernel_rfl) (by kernel_rfl) (by kernel_rfl) (by kernel_rfl))
def c54(n:Nat):PF Tryz.prog 54 [.s,.sk [88]] (.i .i64):=aB Tryz.func54 Tryz.call54 [(c89 n)] [noL 0 (sb (acM [] [] Tryz.f54) 0)] [] [] (lV n)
def c24(n:Nat):PF Tryz.prog 24 [.s] (.tp [.i .i64,.i .i64]):=aB Tryz.func24 Tryz.call24 [(c38 n).e,(c54 n).e,(c53 n).e] [] [] [] (l5 n)
def c5E(n:Nat):List (FE Tryz.prog):=[(c22 n).e,(c23 n).e,(c10 n).e,(c24 n).e,(c25 n).e,(c26 n).e]
def c5l2(n:Nat):LP Tryz.prog Tryz.f5.ntmps:=cr (c5E n) [] 2 (sb (sb (sb (acM [] [] Tryz.f5) 0).body 1).body 2) false ⟨[(5,.p 3 0),(8,.i .i64),(9,.i .i64),(13,.i .i64),(63,.ws 1),(64,.i .i64),(65,.i .i64),(74,.ws 2),(75,.i .i64),(76,.i .i64)],q28,4,0,0,0⟩ [] [⟨.exit 4,q61⟩] (du n) n
def c5l1(n:Nat):LP Tryz.prog Tryz.f5.ntmps:=cr (c5E n) [c5l2 n] 1 (sb (sb (acM [] [] Tryz.f5) 0).body 1) false q61 [] [⟨.exit 2,⟨[(5,.p 3 0),(8,.i .i64),(9,.i .i64)],q28,4,0,0,0⟩⟩] (dw n) n
def c5l0(n:Nat):LP Tryz.prog Tryz.f5.ntmps:=cr (c5E n) [c5l1 n] 0 (sb (acM [] [] Tryz.f5) 0) false ⟨[(5,.p 3 0),(8,.i .i64),(9,.i .i64),(10,.b)],q28,4,0,0,0⟩ [] [⟨.exit 0,⟨[(8,.i .i64)],[],4,0,0,0⟩⟩] (dx n) n
def c5(n:Nat):PF Tryz.prog 5 q64 (.tp [.i .i64,.i .i64]):=aB Tryz.func5 Tryz.call5 (c5E n) [c5l0 n] [] [] (bg n)
def c27(n:Nat):PF Tryz.prog 27 [.ag q20,.ag q22,.b] (.tp [.ag q22,.i .i64]):=aB Tryz.func27 Tryz.call27 [(c22 n).e,(c23 n).e,(c33 n).e] [] [] [] (jq n)
def c6(n:Nat):PF Tryz.prog 6 q64 (.tp [.ag q22,.i .i64]):=aB Tryz.func6 Tryz.call6 [(c27 n).e] [] [] [] (dp n)
def c145(n:Nat):FF Tryz.prog 145 [.p 0 0] q59 1 1 [⟨.s,[],[],false⟩]:=funC Tryz.func145 Tryz.call145 [] [] [] [] [0] (cE n)
def c95(n:Nat):FF Tryz.prog 95 [.p 0 0] q59 1 1 [⟨.tp [.i .u8,.b],[],[],false⟩]:=funC Tryz.func95 Tryz.call95 [(c145 n).e] [] [] [] [0] (bm n)
def c149(n:Nat):FF Tryz.prog 149 [.p 0 0] q59 1 1 [⟨.i .i64,[],[],false⟩]:=funC Tryz.func149 Tryz.call149 [] [] [] [] [0] (bc n)
def c148(n:Nat):FF Tryz.prog 148 [.p 0 0,.i .i64,.i .i64] q59 1 1 [⟨.it 161 (.ag [.i .i64,.i .i64]),[],[],true⟩]:=funC Tryz.func148 Tryz.call148 [] [] [] [] [0] (aQ n)
def c146(n:Nat):FF Tryz.prog 146 [.p 0 0,.s] q59 0 1 [⟨.it 161 (.ag [.i .i64,.i .i64]),q36,[],true⟩,⟨.i .u8,q36,[],false⟩]:=funC Tryz.func146 Tryz.call146 [(c95 n).e,(c149 n).e,(c148 n).e,(c201 n).e] [] [] [] [0] (dO n)
def c147(n:Nat):PF Tryz.prog 147 [.i .u8] (.tp [.s,.s]):=aB Tryz.func147 Tryz.call147 [] [] [] [] (fw n)
def c126(n:Nat):PF Tryz.prog 126 [.s,.s] (.b):=aB Tryz.func126 Tryz.call126 [] [] [] [] (gA n)
def c129(n:Nat):PF Tryz.prog 129 [.s,.s] (.b):=aB Tryz.func129 Tryz.call129 [(c126 n).e] [] [] [] (kZ n)
def c151(n:Nat):FF Tryz.prog 151 [.p 0 0,.s] q59 1 1 [⟨.b,[],[],false⟩]:=funC Tryz.func151 Tryz.call151 [(c145 n).e,(c129 n).e] [] [] [] [0] (ga n)
def c98(n:Nat):FF Tryz.prog 98 [.p 0 0,.s] q59 0 1 [⟨.b,q36,[],false⟩]:=funC Tryz.func98 Tryz.call98 [(c151 n).e] [] [] [] [0] (aF n)
def c220(n:Nat):PF Tryz.prog 220 [] (.ag [.s,.s,.s,.s]):=aB Tryz.func220 Tryz.call220 [] [] [] [] (n6 n)
def LW(n:Nat):LP Tryz.prog Tryz.f250.ntmps:=cr [] [] 0 (sb (acM [] [] Tryz.f250) 0) false ⟨[(0,.sl 0 0 4 (some (.k 4))),(1,.s),(7,.i .i64),(8,.i .i64)],[(0,.cells [.s,.s,.s,.s])],1,1,1,1⟩ [] q71 (fi n) n
def c250(n:Nat):FF Tryz.prog 250 [.sl 0 0 4 (some (.k 4)),.s] [.cells [.s,.s,.s,.s]] 1 1 [⟨.i .i64,[],[],false⟩]:=funC Tryz.func250 Tryz.call250 [] [LW n] [] [] [0] (gf n)
def c240(n:Nat):PF Tryz.prog 240 [.i .u8] (.tp [.i .u8,.b]):=aB Tryz.func240 Tryz.call240 [(c220 n).e,(c250 n).e] [] [] [] (Bm n)
def c239(n:Nat):FF Tryz.prog 239 [.p 0 0] [.cells [.p 1 0],.cells q21] 1 2 [⟨.it 161 (.ag [.i .i64,.i .i64]),q69,[],true⟩,⟨.i .u8,q69,[],false⟩]:=funC Tryz.func239 Tryz.call239 [(c95 n).e,(c240 n).e,(c146 n).e] [] [] [] [0,1] (cT n)
def K5(n:Nat):List (FE Tryz.prog):=[(c149 n).e,(c95 n).e,(c201 n).e,(c148 n).e]
def MY(n:Nat):LP Tryz.prog Tryz.f241.ntmps:=cr (K5 n) [] 0 (sb (acM [] [] Tryz.f241) 0) false ⟨[(0,.p 0 0),(1,.s),(2,.i .i64),(3,.i .i64),(9,.i .i64),(10,.i .u8),(11,.b)],q36,1,1,0,1⟩ [] [⟨.exit 0,⟨[(0,.p 0 0),(2,.i .i64),(9,.i .i64)],q36,1,1,0,1⟩⟩] (iH n) n
def c241(n:Nat):FF Tryz.prog 241 [.p 0 0,.s,.i .i64,.i .i64] q59 0 1 [⟨.it 161 (.ag [.i .i64,.i .i64]),q36,[],true⟩,⟨.s,q36,[],false⟩]:=funC Tryz.func241 Tryz.call241 (K5 n) [MY n] [] [] [0] (dH n)
def c269(n:Nat):FF Tryz.prog 269 [.s,.p 0 0] [.cells [.p 1 0],.cells q21] 1 2 [⟨.i .i64,q69,[],false⟩,⟨.it 161 (.ag [.i .i64,.i .i64]),q69,[],true⟩]:=funC Tryz.func269 Tryz.call269 [(c98 n).e,(c146 n).e,(c241 n).e,(c66 n)] [] [] [] [0,1] (gD n)
def c244(n:Nat):FF Tryz.prog 244 [.p 0 0] q59 0 1 [⟨.it 161 (.ag [.i .i64,.i .i64]),q36,[],true⟩,⟨.ag q32,q36,[],false⟩]:=funC Tryz.func244 Tryz.call244 [(c98 n).e,(c146 n).e,(c241 n).e,(c269 n).e] [] [] [] [0] (nO n)
def c243(n:Nat):FF Tryz.prog 243 q72 [.cells [.p 2 0],.cells q20,.cells q21] 1 3 [⟨.it 161 (.ag [.i .i64,.i .i64]),[(1,.cells q20),(2,.cells q21)],[],true⟩,⟨.tp [],[(1,.cells q20),(2,.cells q21)],[],false⟩]:=funC Tryz.func243 Tryz.call243 [(c244 n).e] [] [] [] [0,1,2] (ma n)
def c270(n:Nat):FF Tryz.prog 270 [.i .i64,.p 2 0,.p 0 0,.p 1 0] [.ints .u8 3,.ints .u8 3,.cells [.i .u8]] 2 3 [⟨.i .u8,[(2,.cells [.i .u8])],[],false⟩]:=funC Tryz.func270 Tryz.call270 [] [] [] [] [2,0,1] (nY n)
def MI(n:Nat):List (FE Tryz.prog):=[(c136 n).e,(c270 n).e]
def Lt(n:Nat):LP Tryz.prog Tryz.f247.ntmps:=cr (MI n) [] 1 (sb (acM [0] [] Tryz.f247) 1) false ⟨[(6,.p 2 0),(12,.fn 270 [.p 5 0,.p 1 0,.p 0 0]),(13,.p 6 0),(14,.i .i64)],[(0,.ints .u8 3),(1,.ints .u8 3),(2,.ints .u8 3),(5,.cells [.i .u8]),(6,.ints .u8 3)],7,0,0,0⟩ [] [⟨.exit 2,⟨[(6,.p 2 0),(13,.p 6 0)],[(2,.ints .u8 3),(6,.ints .u8 3)],7,0,0,0⟩⟩] (mS n) n
def c247(n:Nat):PF Tryz.prog 247 [.ai .u8 3,.ai .u8 3,.i .i64] (.tp [.ai .u8 3,.i .i64]):=aB Tryz.func247 Tryz.call247 (MI n) [Lt n] [0] [] (gZ n)
def c242(n:Nat):FF Tryz.prog 242 [.p 0 0] [.cells [.fn 1000241 [.p 1 0]],.cells q21] 1 2 [⟨.it 161 (.ag [.i .i64,.i .i64]),q69,[],true⟩,⟨.s,q69,[],false⟩]:=funC Tryz.func242 Tryz.call242 [(c241 n).e] [] [] [] [0,1] (jv n)
def c245(n:Nat):FF Tryz.prog 245 [.p 0 0,.p 2 0] q65 2 4 [⟨.it 161 (.ag [.i .i64,.i .i64]),q62,[],true⟩,⟨.tp [],q62,[],false⟩]:=funC Tryz.func245 Tryz.call245 [(c242 n).e] [] [] [] [0,2,1,3] (md n)
def c246(n:Nat):FF Tryz.prog 246 [.p 0 0,.p 2 0] q65 2 4 [⟨.it 161 (.ag [.i .i64,.i .i64]),q62,[],true⟩,⟨.tp [],q62,[],false⟩]:=funC Tryz.func246 Tryz.call246 [(c242 n).e] [] [] [] [0,2,1,3] (mc n)
def c202(n:Nat):FF Tryz.prog 202 [.p 0 0] q59 0 1 [⟨.it 161 (.ag [.i .i64,.i .i64]),q36,[],true⟩,⟨.tp [.ag q20,.ai .i64 3],q36,[],false⟩]:=funC Tryz.func202 Tryz.call202 [(c239 n).e,(c149 n).e,(c243 n).e,(c247 n).e,(c98 n).e,(c245 n).e,(c246 n).e] [] [0] [] [0] (nT n)
def c150(n:Nat):FF Tryz.prog 150 [.p 0 0] q59 0 1 [⟨.it 161 (.ag [.i .i64,.i .i64]),q36,[],true⟩,⟨.tp [.ag q20,.i .i64],q36,[],false⟩]:=funC Tryz.func150 Tryz.call150 [(c202 n).e,(c50 n).e,(c148 n).e] [] [] [] [0] (jM n)
def MG(n:Nat):List (FE Tryz.prog):=[(c98 n).e,(c145 n).e,(c149 n).e,(c148 n).e]
def MZ(n:Nat):LP Tryz.prog Tryz.f100.ntmps:=cr (MG n) [] 0 (sb (acM [] [] Tryz.f100) 0) false ⟨[(0,.p 0 0),(1,.s),(4,.i .i64),(5,.s)],q36,1,1,0,1⟩ [] [⟨.exit 0,⟨[(0,.p 0 0),(4,.i .i64)],q36,1,1,0,1⟩⟩] (iD n) n
def c100(n:Nat):FF Tryz.prog 100 [.p 0 0,.s] q59 0 1 [⟨.tp [],q36,[],false⟩,⟨.it 161 (.ag [.i .i64,.i .i64]),q36,[],true⟩]:=funC Tryz.func100 Tryz.call100 (MG n) [MZ n] [] [] [0] (eV n)
def c152(n:Nat):FF Tryz.prog 152 [.ws 0] q52 1 1 [⟨.rs 21 0 0 .q (some .q),[],[],false⟩]:=funC Tryz.func152 Tryz.call152 [] [] [] [] [0] (eW n)
def c156(n:Nat):FF Tryz.prog 156 q77 q52 1 1 [⟨.b,[],[],false⟩]:=funC Tryz.func156 Tryz.call156 [] [] [] [] [0] (nF n)
def c63(n:Nat):PF Tryz.prog 63 q64 (.b):=aB Tryz.func63 Tryz.call63 [(c37 n).e] [] [] [] (dM n)
def c65(n:Nat):PF Tryz.prog 65 q64 (.b):=aB Tryz.func65 Tryz.call65 [(c63 n).e] [] [] [] (mR n)
def c155(n:Nat):PF Tryz.prog 155 [.ag q48] (.i .i64):=aB Tryz.func155 Tryz.call155 [(c50 n).e,(c65 n).e] [] [] [] (jm n)
def c67(n:Nat):FF Tryz.prog 67 [] [] 0 0 [⟨.mp 0,[(0,.mp .u8 [(0,110),(1,112),(2,115),(3,117)])],[0],false⟩]:=funC Tryz.func67 Tryz.call67 [] [] [] [] [] (jl n)
def c68(n:Nat):PF Tryz.prog 68 q64 (.i .u8):=aB Tryz.func68 Tryz.call68 [(c51 n).e] [] [] [] (bu n)
def c110(n:Nat):FF Tryz.prog 110 [.i .i64,.ws 0] q63 1 1 [⟨.ag q49,[],[],false⟩]:=funC Tryz.func110 Tryz.call110 [(c111 n).e] [] [] [] [0] (gn n)
def c113(n:Nat):PF Tryz.prog 113 [.i .i64] (.tp [.i .i64,.i .i64]):=aB Tryz.func113 Tryz.call113 [(c119 n).e,(c120 n).e] [] [] [] (yp n)
def c171(n:Nat):PF Tryz.prog 171 [.i .i64] (.ag [.i .i8,.i .i64]):=aB Tryz.func171 Tryz.call171 [] [] [] [] (yD n)
def c114(n:Nat):PF Tryz.prog 114 [.i .i64,.i .i64] (.ag q49):=aB Tryz.func114 Tryz.call114 [(c171 n).e] [] [] [] (nv n)
def c112(n:Nat):FF Tryz.prog 112 [.i .i64,.ws 0] q63 1 1 [⟨.ag q49,[],[],false⟩]:=funC Tryz.func112 Tryz.call112 [(c76 n).e,(c113 n).e,(c114 n).e] [] [] [] [0] (gu n)
def c115(n:Nat):FF Tryz.prog 115 [.i .i64,.ws 0] q63 1 1 [⟨.ag q49,[],[],false⟩]:=funC Tryz.func115 Tryz.call115 [(c41 n).e,(c116 n).e,(c114 n).e] [] [] [] [0] (gk n)
def c15(n:Nat):PF Tryz.prog 15 [.ag q22] (.i .i64):=aB Tryz.func15 Tryz.call15 [(c46 n).e] [] [] [] (dS n)
def c12(n:Nat):PF Tryz.prog 12 [.ag q22] (.tp [.i .i64,.i .i64]):=aB Tryz.func12 Tryz.call12 [(c15 n).e,(c41 n).e] [] [] [] (gV n)
def c117(n:Nat):FF Tryz.prog 117 [.i .i64,.ws 0] q63 1 1 [⟨.ag q49,[],[],false⟩]:=funC Tryz.func117 Tryz.call117 [(c12 n).e,(c114 n).e] [] [] [] [0] (gp n)
def c32(n:Nat):PF Tryz.prog 32 q64 (.tp [.ag q49,.i .i64]):=aB Tryz.func32 Tryz.call32 [(c50 n).e,(c65 n).e,(c55 n).e,(c66 n),(c67 n).e,(c68 n).e,(c110 n).e,(c112 n).e,(c115 n).e,(c117 n).e] [] [] [] (dD n)
def c271(n:Nat):PF Tryz.prog 271 [.i .i8] (.b):=aB Tryz.func271 Tryz.call271 [] [] [] [] (kM n)
def c248(n:Nat):PF Tryz.prog 248 [.i .i8,.i .i8] (.i .i64):=aB Tryz.func248 Tryz.call248 [(c271 n).e] [] [] [] (l9 n)
def c72(n:Nat):PF Tryz.prog 72 [.i .i64] (.b):=aB Tryz.func72 Tryz.call72 [] [] [] [] (ip n)
def c35(n:Nat):PF Tryz.prog 35 [.i .i64,.i .i64] (.i .i64):=aB Tryz.func35 Tryz.call35 [(c72 n).e] [] [] [] (ep n)
def N8(n:Nat):LP Tryz.prog Tryz.f34.ntmps:=cr [] [] 0 (sb (acM [] [] Tryz.f34) 0) false ⟨[(3,.i .i64),(6,.ws 0),(7,.i .i64),(8,.i .i64)],q58,1,1,1,1⟩ [] [⟨.ret,⟨[(2,.i .i64)],[],1,1,1,1⟩⟩,⟨.exit 0,⟨[(3,.i .i64)],[],1,1,1,1⟩⟩] (cJ n) n
def c34(n:Nat):FF Tryz.prog 34 [.ws 0] q63 1 1 [⟨.i .i64,[],[],false⟩]:=funC Tryz.func34 Tryz.call34 [] [N8 n] [] [] [0] (li n)
def c203(n:Nat):PF Tryz.prog 203 [.ag [.i .i8,.i .i64],.ag [.i .i8,.i .i64]] (.i .i64):=aB Tryz.func203 Tryz.call203 [(c248 n).e,(c35 n).e,(c34 n).e] [] [] [] (kG n)
def c153(n:Nat):PF Tryz.prog 153 [.ag q48,.ag q48] (.i .i64):=aB Tryz.func153 Tryz.call153 [(c155 n).e,(c32 n).e,(c203 n).e] [] [0] [] (ku n)
def c254(n:Nat):FF Tryz.prog 254 [.p 0 0] [.cells q19] 1 1 [⟨.b,[],[],false⟩]:=funC Tryz.func254 Tryz.call254 [] [] [] [] [0] (qP n)
def c258(n:Nat):PF Tryz.prog 258 [.ag q24] (.b):=aB Tryz.func258 Tryz.call258 [(c63 n).e] [] [] [] (oe n)
def c259(n:Nat):PF Tryz.prog 259 [.ag q24] (.b):=aB Tryz.func259 Tryz.call259 [(c50 n).e,(c258 n).e,(c68 n).e] [] [] [] (lJ n)
def c256(n:Nat):PF Tryz.prog 256 [.ag q24,.ag q24] (.b):=aB Tryz.func256 Tryz.call256 [(c259 n).e,(c68 n).e,(c32 n).e,(c203 n).e] [] [] [] (pF n)
def c255(n:Nat):FF Tryz.prog 255 [.p 0 0] [.cells q19] 1 1 [⟨.b,[],[],false⟩]:=funC Tryz.func255 Tryz.call255 [(c256 n).e] [] [] [] [0] (qV n)
def c257(n:Nat):FF Tryz.prog 257 q72 [.cells [.i .u8],.cells q19] 2 2 [⟨.b,[],[],false⟩]:=funC Tryz.func257 Tryz.call257 [(c258 n).e] [] [] [] [0,1] (qF n)
def c209(n:Nat):FF Tryz.prog 209 [.sl 0 0 3 (some (.k 3))] [.cells [.i .i64,.fn 254 [.p 1 0],.i .i64,.fn 255 [.p 1 0],.i .i64,.fn 257 [.p 2 0,.p 1 0]],.cells q19,.cells [.i .u8]] 3 3 [⟨.i .i64,[],[],false⟩]:=funC Tryz.func209 Tryz.call209 [(c254 n).e,(c255 n).e,(c257 n).e] [] [0] [] [0,1,2] (gx n)
def c210(n:Nat):PF Tryz.prog 210 [.ag q19,.i .u8] (.i .i64):=aB Tryz.func210 Tryz.call210 [(c50 n).e,(c209 n).e] [] [] [] (jR n)
def c211(n:Nat):FF Tryz.prog 211 q72 [.cells q19,.cells q39,.rows q11] 3 3 [⟨.b,[],[],false⟩]:=funC Tryz.func211 Tryz.call211 [(c210 n).e] [] [] [] [0,1,2] (mX n)
def c213(n:Nat):PF Tryz.prog 213 [.ag q19] (.b):=aB Tryz.func213 Tryz.call213 [(c259 n).e] [] [] [] (mW n)
def c212(n:Nat):FF Tryz.prog 212 [.p 0 0,.p 1 0,.p 2 0] [.cells [.i .u8,.bd,.b,.s,.i .i64,.i .i64,.s,.s,.i .u8,.i .u8,.i .u8,.i .u8,.bd,.b,.s,.i .i64,.i .i64,.s,.s,.i .u8,.i .u8,.i .u8,.i .u8,.bd,.b,.s,.i .i64,.i .i64,.s,.s,.i .u8,.i .u8,.i .u8,.rs 21 3 0 .q (some .q),.b,.b],.cells [.i .i64],.cells q19,.rows q11] 4 4 [⟨.b,[],[],false⟩]:=funC Tryz.func212 Tryz.call212 [(c213 n).e] [] [] [] [0,1,2,3] (mD n)
def c214(n:Nat):FF Tryz.prog 214 [.p 0 0,.p 1 0,.p 2 0,.p 3 0] [.cells [.i .u8,.bd,.b,.s,.i .i64,.i .i64,.s,.s,.i .u8,.i .u8,.i .u8,.i .u8,.bd,.b,.s,.i .i64,.i .i64,.s,.s,.i .u8,.i .u8,.i .u8,.i .u8,.bd,.b,.s,.i .i64,.i .i64,.s,.s,.i .u8,.i .u8,.i .u8,.rs 21 4 0 .q (some .q),.b,.b],.cells [.i .i64],.cells [.i .i64],.cells q19,.rows q11] 5 5 [⟨.b,[],[],false⟩]:=funC Tryz.func214 Tryz.call214 [(c213 n).e] [] [] [] [0,1,2,3,4] (mE n)
def c215(n:Nat):FF Tryz.prog 215 q72 [.cells q39,.cells [.i .i64],.rows q11] 3 3 [⟨.b,[],[],false⟩]:=funC Tryz.func215 Tryz.call215 [] [] [] [] [0,1,2] (my n)
def K0(n:Nat):FF Tryz.prog 209 [.sl 0 0 4 (some (.k 4))] [.cells q51,.cells q19,.cells [.i .u8,.bd,.b,.s,.i .i64,.i .i64,.s,.s,.i .u8,.i .u8,.i .u8,.i .u8,.bd,.b,.s,.i .i64,.i .i64,.s,.s,.i .u8,.i .u8,.i .u8,.i .u8,.bd,.b,.s,.i .i64,.i .i64,.s,.s,.i .u8,.i .u8,.i .u8,.rs 21 5 0 .q (some .q),.b,.b],.cells [.i .i64],.cells [.i .i64],.rows q11] 6 6 [⟨.i .i64,[],[],false⟩]:=funC Tryz.func209 Tryz.call209 [(c211 n).e,(c212 n).e,(c214 n).e,(c215 n).e] [] [0] [] [0,1,2,3,4,5] (me n)
def Lp(n:Nat):List (FE Tryz.prog):=[(c210 n).e,(K0 n).e]
def M7(n:Nat):LP Tryz.prog Tryz.f157.ntmps:=cr (Lp n) [] 0 (sb (acM [] [] Tryz.f157) 0) true ⟨[(1,.p 1 0),(4,.p 2 0),(13,.rs 21 0 0 .q (some .q)),(14,.i .i64),(15,.i .i64)],[(0,.rows q11),(1,.cells q13),(2,.cells [.i .i64])],3,1,1,1⟩ [] q68 (mg n) n
def c157(n:Nat):FF Tryz.prog 157 q77 q52 1 1 [⟨.tp [.i .i64,.i .i64],[],[],false⟩]:=funC Tryz.func157 Tryz.call157 (Lp n) [M7 n] [] [] [0] (oO n)
def c103(n:Nat):FF Tryz.prog 103 q77 q52 1 1 [⟨.tp [.i .i64,.i .i64],[],[],false⟩]:=funC Tryz.func103 Tryz.call103 [(c156 n).e,(c50 n).e,(c153 n).e,(c157 n).e] [] [] [] [0] (l4 n)
def c96E(n:Nat):List (FE Tryz.prog):=[(c146 n).e,(c147 n).e,(c98 n).e,(c149 n).e,(c148 n).e,(c150 n).e,(c151 n).e,(c100 n).e,(c152 n).e,(c103 n).e]
def N1(n:Nat):LP Tryz.prog Tryz.f96.ntmps:=qZ (c96E n) [] 1003 (sb (acM [] [3,16,17] Tryz.f96) 1003) true ⟨[(0,.p 0 0),(2,.p 1 0),(3,.p 2 0),(15,.b)],[(0,.cells q21),(1,.cells q29),(2,.cells [.ik .u8 3,.bk false,.bk false,.sk [],.ik .i64 0,.ik .i64 0,.sk [],.sk [],.ik .u8 0,.ik .u8 0,.ik .u8 0,.ik .u8 0,.bk false,.bk false,.sk [],.ik .i64 0,.ik .i64 0,.sk [],.sk [],.ik .u8 0,.ik .u8 0,.ik .u8 0,.ik .u8 0,.bk false,.bk false,.sk [],.ik .i64 0,.ik .i64 0,.sk [],.sk [],.ik .u8 0,.ik .u8 0,.ik .u8 0,.ws 4,.bk false,.bk false]),(3,.rows q11),(4,.rows q11)],5,1,0,1⟩ [⟨.nrm,⟨[(0,.p 0 0),(2,.p 1 0),(3,.p 2 0)],[(0,.cells q21),(1,.cells q29),(2,.cells [.i .u8,.bk false,.bk false,.sk [],.ik .i64 0,.ik .i64 0,.sk [],.sk [],.ik .u8 0,.ik .u8 0,.ik .u8 0,.ik .u8 0,.bk false,.bk false,.sk [],.ik .i64 0,.ik .i64 0,.sk [],.sk [],.ik .u8 0,.ik .u8 0,.ik .u8 0,.ik .u8 0,.bk false,.bk false,.sk [],.ik .i64 0,.ik .i64 0,.sk [],.sk [],.ik .u8 0,.ik .u8 0,.ik .u8 0,.ws 4,.bk false,.bk false]),(3,.rows q11),(4,.rows q11)],5,1,0,1⟩⟩] (oK n)
def Lq(n:Nat):LP Tryz.prog Tryz.f96.ntmps:=qZ (c96E n) [] 1016 (sb (sb (acM [] [3,16,17] Tryz.f96) 0).body 1016) true ⟨q67,q16,7,1,0,1⟩ [⟨.nrm,q60⟩] (nW n)
def MU(n:Nat):LP Tryz.prog Tryz.f96.ntmps:=qZ (c96E n) [] 1017 (sb (sb (acM [] [3,16,17] Tryz.f96) 0).body 1017) true q60 [⟨.pan (.it 161 (.ag [.i .i64,.i .i64])),⟨[],q36,1,1,0,1⟩⟩,⟨.nrm,⟨q67,[(0,.cells q21),(1,.cells q30),(2,.cells q31),(3,.rows [.i .i64]),(4,.cells q19),(5,.rows q11),(6,.rows q11)],7,1,0,1⟩⟩] (nU n)
def NY(n:Nat):LP Tryz.prog Tryz.f96.ntmps:=cr (c96E n) [Lq n,MU n] 0 (sb (acM [] [3,16,17] Tryz.f96) 0) true ⟨q75,[(0,.cells q21),(1,.cells [.ik .u8 0,.bk false,.bk false,.sk [],.ik .i64 0,.ik .i64 0,.sk [],.sk [],.ik .u8 0,.ik .u8 0,.ik .u8 0,.ik .u8 0,.bk false,.bk false,.sk [],.ik .i64 0,.ik .i64 0,.sk [],.sk [],.ik .u8 0,.ik .u8 0,.ik .u8 0,.ik .u8 0,.bk false,.bk false,.sk [],.ik .i64 0,.ik .i64 0,.sk [],.sk [],.ik .u8 0,.ik .u8 0,.ik .u8 0,.ws 4,.bk false,.bk false]),(2,.cells [.i .u8,.bk false,.bk false,.sk [],.ik .i64 0,.ik .i64 0,.sk [],.sk [],.ik .u8 0,.ik .u8 0,.ik .u8 0,.ik .u8 0,.bk false,.bk false,.sk [],.ik .i64 0,.ik .i64 0,.sk [],.sk [],.ik .u8 0,.ik .u8 0,.ik .u8 0,.ik .u8 0,.bk false,.bk false,.sk [],.ik .i64 0,.ik .i64 0,.sk [],.sk [],.ik .u8 0,.ik .u8 0,.ik .u8 0,.ws 5,.b,.bk false]),(3,.rows [.i .i64]),(4,.rows q11),(5,.rows q11)],6,1,0,1⟩ [.nilT 6 1000 [.i .i64]] [⟨.pan (.it 161 (.ag [.i .i64,.i .i64])),⟨[],q36,1,1,0,1⟩⟩,⟨.exit 0,⟨q75,[(0,.cells q21),(1,.cells q45),(2,.cells q46),(3,.rows [.i .i64]),(4,.rows q11),(5,.rows q11)],6,1,0,1⟩⟩] (oM n) n
def c96(n:Nat):FF Tryz.prog 96 [.p 0 0] q59 0 1 [⟨.it 161 (.ag [.i .i64,.i .i64]),q36,[],true⟩,⟨.ag [.i .u8,.bd,.b,.s,.i .i64,.i .i64,.s,.s,.i .u8,.i .u8,.i .u8,.i .u8,.bd,.b,.s,.i .i64,.i .i64,.s,.s,.i .u8,.i .u8,.i .u8,.i .u8,.bd,.b,.s,.i .i64,.i .i64,.s,.s,.i .u8,.i .u8,.i .u8,.rs 21 1 0 .q (some .q),.b,.b],[(0,.cells q21),(1,.rows q11)],[1],false⟩]:=funC Tryz.func96 Tryz.call96 (c96E n) [N1 n,NY n] [] [3,16,17] [0] (qo n)
def c97(n:Nat):FF Tryz.prog 97 [.p 2 0,.i .i64] [.cells q21,.rows q11,.cells q37] 2 3 [⟨.tp [],[(2,.cells q37)],[],false⟩]:=funC Tryz.func97 Tryz.call97 [] [] [] [] [2,0,1] (fF n)
def MF(n:Nat):FF Tryz.prog 97 [.p 2 0,.i .i64] [.cells q21,.rows q11,.cells q40] 2 3 [⟨.tp [],[(2,.cells q40)],[],false⟩]:=funC Tryz.func97 Tryz.call97 [] [] [] [] [2,0,1] (cZ n)
def EP(_n:Nat):Ent:=I7 204
theorem BY(n:Nat):cN Tryz.prog (EP n):=E4 Tryz.call204 λs c w h1 h2 h3=>Tryz.strings_TrimRight_laid s c w h1 h2 h3
def c204(n:Nat):FE Tryz.prog:=libF (BY n)
def IL(n:Nat):PF Tryz.prog 126 [.s,.sk [45]] (.b):=aB Tryz.func126 Tryz.call126 [] [] [] [] (bY n)
def c249(n:Nat):PF Tryz.prog 249 [.s,.sk [45]] (.s):=aB Tryz.func249 Tryz.call249 [(IL n).e] [] [] [] (gg n)
def c205(n:Nat):PF Tryz.prog 205 [.s,.sk [45]] (.s):=aB Tryz.func205 Tryz.call205 [(c249 n).e] [] [] [] (kE n)
end
end Go.Sh
