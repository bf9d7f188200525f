/- Each function of the program computes its plain function: the certificates.
   Conditions: none. Printed by the bench tool gen.py. -/
import Derived.Test.YtfiponokimbeeaaGreatDoorAbsPat
import Derived.Test.YtfiponokimbeeaaGreatDoorHGa
import Derived.Test.YtfiponokimbeeaaGreatDoorHGb
import Derived.Test.YtfiponokimbeeaaGreatDoorHGe
set_option linter.unusedVariables false
set_option linter.unusedSimpArgs false
set_option maxRecDepth 100000
set_option maxHeartbeats 4000000
namespace Go.Sh
open Go.Abs Go.Proofs
noncomputable section
abbrev q30:List PV:=[.s,.i .i64]
abbrev q40:List PV:=[.b,.b,.s,.i .i64,.i .i64]
abbrev q133:List PV:=[.ag q40]
abbrev q20:List PV:=[.b,.b,.s,.i .i64,.i .i64,.s,.s,.i .u8,.i .u8,.i .u8]
abbrev q105:PSt:=⟨[(2,.i .i64)],[],1,0,0,0⟩
abbrev q89:List PV:=[.ag q20]
abbrev q130:PSt:=⟨[(0,.s),(1,.i .i64),(5,.i .i64)],[],0,0,0,0⟩
abbrev q92:List (Nat×PV):=[(4,.i .i64)]
abbrev q120:PSt:=⟨q92,[],0,0,0,0⟩
abbrev q114:PSt:=⟨[],[],0,0,0,0⟩
abbrev q122:List PX:=[⟨.ret,⟨q92,[],1,0,0,0⟩⟩,⟨.exit 0,⟨[],[],1,0,0,0⟩⟩]
abbrev q126:List PV:=[.ai .u8 3,.i .i64]
abbrev q109:List (Nat×PB):=[(0,.cells q40)]
abbrev q80:List (Nat×PB):=[(0,.rows [.i .i64])]
abbrev q74:List (Nat×PB):=[(0,.cells q20),(1,.rows [.i .i64]),(2,.rows [.i .i64,.i .i64,.i .i64])]
abbrev q106:PSt:=⟨[(1,.i .i64),(2,.p 0 0),(5,.ws 2),(6,.ws 1),(7,.i .i64)],q74,3,0,0,0⟩
abbrev q45:List PV:=[.i .u8,.b,.b,.s,.i .i64,.i .i64,.s,.s,.i .u8,.i .u8,.i .u8]
abbrev q78:PSt:=⟨[(0,.i .i64),(4,.i .i64),(5,.b)],[],0,0,0,0⟩
abbrev q79:PSt:=⟨[(0,.i .i64),(4,.i .i64),(9,.b)],[],0,0,0,0⟩
abbrev q76:PSt:=⟨[(0,.i .i64),(4,.i .i64),(13,.b)],[],0,0,0,0⟩
abbrev q77:PSt:=⟨[(0,.i .i64),(4,.i .i64),(17,.b)],[],0,0,0,0⟩
abbrev q57:PSt:=⟨[(0,.i .i64),(4,.i .i64),(21,.b)],[],0,0,0,0⟩
abbrev q127:PSt:=⟨[(0,.i .i64),(4,.i .i64),(30,.b)],[],0,0,0,0⟩
abbrev q134:List PX:=[⟨.nrm,⟨[(0,.i .i64),(30,.b)],[],0,0,0,0⟩⟩]
abbrev q81:PSt:=⟨[(0,.i .i64),(1,.i .i64),(5,.i .i64),(6,.i .i64)],[],0,0,0,0⟩
abbrev q104:List PX:=[⟨.exit 0,⟨[(5,.i .i64)],[],0,0,0,0⟩⟩]
abbrev q88:List PB:=[.cells q30]
abbrev q55:List (Nat×PB):=[(0,.cells q30)]
abbrev q123:List PX:=[⟨.ret,⟨q92,[],1,1,1,1⟩⟩,⟨.exit 0,⟨[],[],1,1,1,1⟩⟩]
abbrev q110:List (Nat×PB):=[(1,.cells q30)]
abbrev q115:List PV:=[.p 0 0,.p 1 0]
abbrev q119:List PV:=[.ai .u8 3,.ai .u8 3,.i .i64]
abbrev q99:List PB:=[.cells [.fn 289 [.p 1 0]],.cells [.fn 1000288 [.p 3 0]],.cells q20,.cells q30]
abbrev q96:List (Nat×PB):=[(2,.cells q20),(3,.cells q30)]
abbrev q121:List (Nat×PV):=[(0,.s),(7,.s),(8,.i .i64),(9,.i .i64),(12,.i .i64)]
abbrev q66:List PV:=[.i .i8,.i .i64,.i .i8,.i .i64]
abbrev q38:List PV:=[.b,.b,.s,.i .i64,.i .i64,.s,.s,.i .u8,.i .u8,.i .u8,.ws 0,.ws 1]
abbrev q97:List PB:=[.rows [.i .i64]]
abbrev q75:PSt:=⟨[(0,.s),(1,.i .i64),(2,.b),(8,.i .u8),(9,.i .u8),(10,.p 0 0),(11,.p 1 0),(12,.i .i64)],[(0,.ints .u8 18),(1,.ints .u8 18)],2,0,0,0⟩
abbrev q112:List PB:=[.rows [.i .i64],.rows [.i .i64]]
abbrev q70:List (Nat×PB):=[(0,.rows [.i .i64]),(1,.rows [.i .i64]),(2,.cells q38),(3,.cells [.i .i64,.i .i64,.i .i64]),(4,.cells [.b]),(5,.cells [.ik .i64 0,.ik .i64 0,.ik .i64 0])]
abbrev q15:List (Nat×PB):=[(0,.rows [.i .i64]),(1,.rows [.i .i64]),(2,.cells q38),(3,.cells [.i .i64,.i .i64,.i .i64]),(4,.cells [.b]),(5,.cells [.i .i64,.i .i64,.i .i64]),(62,.rows [.i .i64]),(63,.rows [.i .i64])]
abbrev q18:List (Nat×PB):=[(0,.rows [.i .i64]),(1,.rows [.i .i64]),(2,.cells q38),(3,.cells [.i .i64,.i .i64,.i .i64]),(4,.cells [.b]),(5,.cells [.i .i64,.i .i64,.i .i64])]
abbrev q61:PSt:=⟨[(3,.p 2 0),(4,.p 3 0),(5,.p 4 0),(6,.p 5 0),(8,.i .i64),(9,.ws 62),(10,.ws 63),(11,.fn 173 [.p 4 0]),(12,.i .i64),(15,.i .i64),(16,.b),(17,.i .i64),(53,.ws 62),(54,.i .i64),(55,.i .i64)],q15,64,2,2,2⟩
abbrev q62:PSt:=⟨[(3,.p 2 0),(4,.p 3 0),(5,.p 4 0),(6,.p 5 0),(8,.i .i64),(9,.ws 0),(10,.ws 1),(11,.fn 173 [.p 4 0]),(12,.i .i64),(15,.i .i64),(16,.b),(17,.i .i64),(53,.ws 0),(54,.i .i64),(55,.i .i64)],q18,62,2,2,2⟩
abbrev q84:List (Nat×PV):=[(6,.p 5 0),(7,.b)]
abbrev q49:List (Nat×PB):=[(5,.cells [.i .i64,.i .i64,.i .i64])]
abbrev q128:PSt:=⟨q84,q49,64,2,2,2⟩
abbrev q37:PSt:=⟨[(3,.p 2 0),(4,.p 3 0),(5,.p 4 0),(6,.p 5 0),(8,.i .i64),(9,.ws 62),(10,.ws 63),(11,.fn 173 [.p 4 0]),(12,.i .i64),(53,.ws 62),(54,.i .i64),(55,.i .i64)],q15,64,2,2,2⟩
abbrev q129:PSt:=⟨q84,q49,62,2,2,2⟩
abbrev q39:PSt:=⟨[(3,.p 2 0),(4,.p 3 0),(5,.p 4 0),(6,.p 5 0),(8,.i .i64),(9,.ws 0),(10,.ws 1),(11,.fn 173 [.p 4 0]),(12,.i .i64),(53,.ws 0),(54,.i .i64),(55,.i .i64)],q18,62,2,2,2⟩
abbrev q11:List Lf:=[.bo,.bo,.s,.i .i64,.i .i64,.s,.s,.i .u8,.i .u8,.i .u8,.bo,.bo,.bo,.s,.i .i64,.i .i64,.s,.s,.i .u8,.i .u8,.i .u8]
abbrev q83:List PB:=[.rows q11]
abbrev q29:List PV:=[.i .u8,.bd,.b,.s,.i .i64,.i .i64,.s,.s,.i .u8,.i .u8,.i .u8,.i .u8,.bd,.b,.s,.i .i64,.i .i64,.s,.s,.i .u8,.i .u8,.i .u8,.i .u8,.bd,.b,.s,.i .i64,.i .i64,.s,.s,.i .u8,.i .u8,.i .u8,.rs 21 0 0 .q (some .q),.b,.b]
abbrev q19:List PV:=[.bd,.b,.s,.i .i64,.i .i64,.s,.s,.i .u8,.i .u8,.i .u8,.b,.bd,.b,.s,.i .i64,.i .i64,.s,.s,.i .u8,.i .u8,.i .u8]
abbrev q33:List PV:=[.bd,.b,.s,.i .i64,.i .i64,.s,.s,.i .u8,.i .u8,.i .u8]
abbrev q58:List PV:=[.i .u8,.bd,.b,.s,.i .i64,.i .i64,.s,.s,.i .u8,.i .u8,.i .u8,.i .u8,.bd,.b,.s,.i .i64,.i .i64,.s,.s,.i .u8,.i .u8,.i .u8,.i .u8,.bd,.b,.s,.i .i64,.i .i64,.s,.s,.i .u8,.i .u8,.i .u8,.rs 21 2 0 .q (some .q),.b,.b]
abbrev q71:List PV:=[.i .i64,.fn 218 [.p 1 0,.p 2 0],.i .i64,.fn 219 [.p 2 0,.p 3 0,.p 1 0],.i .i64,.fn 221 [.p 2 0,.p 3 0,.p 4 0,.p 1 0],.i .i64,.fn 222 [.p 2 0,.p 4 0]]
abbrev q72:List PX:=[⟨.ret,⟨[(2,.i .i64),(3,.i .i64)],[],1,1,1,1⟩⟩,⟨.exit 0,⟨[],[],1,1,1,1⟩⟩]
abbrev q14:List PV:=[.ik .u8 0,.bk false,.bk false,.sk [],.ik .i64 0,.ik .i64 0,.sk [],.sk [],.ik .u8 0,.ik .u8 0,.ik .u8 0,.ik .u8 0,.bk false,.bk false,.sk [],.ik .i64 0,.ik .i64 0,.sk [],.sk [],.ik .u8 0,.ik .u8 0,.ik .u8 0,.ik .u8 0,.bk false,.bk false,.sk [],.ik .i64 0,.ik .i64 0,.sk [],.sk [],.ik .u8 0,.ik .u8 0,.ik .u8 0,.ws 3,.bk false,.bk false]
abbrev q103:List (Nat×PV):=[(0,.p 0 0),(2,.p 1 0),(3,.p 2 0),(5,.s),(6,.ws 3),(7,.p 4 0),(9,.i .i64)]
abbrev q21:List PV:=[.ik .u8 0,.bk false,.bk false,.sk [],.ik .i64 0,.ik .i64 0,.sk [],.sk [],.ik .u8 0,.ik .u8 0,.ik .u8 0,.ik .u8 0,.bk false,.bk false,.sk [],.ik .i64 0,.ik .i64 0,.sk [],.sk [],.ik .u8 0,.ik .u8 0,.ik .u8 0,.ik .u8 0,.bk false,.bk false,.sk [],.ik .i64 0,.ik .i64 0,.sk [],.sk [],.ik .u8 0,.ik .u8 0,.ik .u8 0,.ws 5,.bk false,.bk false]
abbrev q26:List PV:=[.i .u8,.bk false,.bk false,.sk [],.ik .i64 0,.ik .i64 0,.sk [],.sk [],.ik .u8 0,.ik .u8 0,.ik .u8 0,.ik .u8 0,.bk false,.bk false,.sk [],.ik .i64 0,.ik .i64 0,.sk [],.sk [],.ik .u8 0,.ik .u8 0,.ik .u8 0,.ik .u8 0,.bk false,.bk false,.sk [],.ik .i64 0,.ik .i64 0,.sk [],.sk [],.ik .u8 0,.ik .u8 0,.ik .u8 0,.ws 6,.b,.bk false]
abbrev q69:List PV:=[.bd,.b,.s,.i .i64,.i .i64,.s,.s,.i .u8,.i .u8,.i .u8,.bk false,.bk false,.bk false,.sk [],.ik .i64 0,.ik .i64 0,.sk [],.sk [],.ik .u8 0,.ik .u8 0,.ik .u8 0]
abbrev q36:List (Nat×PB):=[(0,.cells q30),(1,.cells q21),(2,.cells q26),(3,.rows [.i .i64]),(4,.cells q69),(5,.rows q11),(6,.rows q11)]
abbrev q91:PSt:=⟨[(0,.p 0 0),(2,.p 1 0),(3,.p 2 0),(5,.s),(6,.ws 3),(7,.p 4 0),(9,.i .i64),(49,.b)],q36,7,1,0,1⟩
abbrev q124:List (Nat×PV):=[(0,.p 0 0),(2,.p 1 0),(3,.p 2 0),(5,.s),(6,.ws 3)]
abbrev q22:List PV:=[.ik .u8 0,.bk false,.bk false,.sk [],.ik .i64 0,.ik .i64 0,.sk [],.sk [],.ik .u8 0,.ik .u8 0,.ik .u8 0,.ik .u8 0,.bk false,.bk false,.sk [],.ik .i64 0,.ik .i64 0,.sk [],.sk [],.ik .u8 0,.ik .u8 0,.ik .u8 0,.ik .u8 0,.bk false,.bk false,.sk [],.ik .i64 0,.ik .i64 0,.sk [],.sk [],.ik .u8 0,.ik .u8 0,.ik .u8 0,.ws 4,.bk false,.bk false]
abbrev q47:List PV:=[.i .u8,.bk false,.bk false,.sk [],.ik .i64 0,.ik .i64 0,.sk [],.sk [],.ik .u8 0,.ik .u8 0,.ik .u8 0,.ik .u8 0,.bk false,.bk false,.sk [],.ik .i64 0,.ik .i64 0,.sk [],.sk [],.ik .u8 0,.ik .u8 0,.ik .u8 0,.ik .u8 0,.bk false,.bk false,.sk [],.ik .i64 0,.ik .i64 0,.sk [],.sk [],.ik .u8 0,.ik .u8 0,.ik .u8 0,.ws 5,.b,.bk false]
abbrev q64:List PV:=[.i .u8,.bd,.b,.s,.i .i64,.i .i64,.s,.s,.i .u8,.i .u8,.i .u8,.i .u8,.bd,.b,.s,.i .i64,.i .i64,.s,.s,.i .u8,.i .u8,.i .u8,.i .u8,.bd,.b,.s,.i .i64,.i .i64,.s,.s,.i .u8,.i .u8,.i .u8,.ws 4,.b,.b]
abbrev q43:List PV:=[.i .u8,.bd,.b,.s,.i .i64,.i .i64,.s,.s,.i .u8,.i .u8,.i .u8,.i .u8,.bd,.b,.s,.i .i64,.i .i64,.s,.s,.i .u8,.i .u8,.i .u8,.i .u8,.bd,.b,.s,.i .i64,.i .i64,.s,.s,.i .u8,.i .u8,.i .u8,.ws 5,.b,.b]
abbrev q56:List PV:=[.p 0 0,.i .u8,.bd,.b,.s,.i .i64,.i .i64,.s,.s,.i .u8,.i .u8,.i .u8,.i .u8,.bd,.b,.s,.i .i64,.i .i64,.s,.s,.i .u8,.i .u8,.i .u8,.i .u8,.bd,.b,.s,.i .i64,.i .i64,.s,.s,.i .u8,.i .u8,.i .u8,.rs 21 1 0 .q (some .q),.b,.b,.i .i64]
abbrev q59:List PV:=[.p 0 0,.i .u8,.bd,.b,.s,.i .i64,.i .i64,.s,.s,.i .u8,.i .u8,.i .u8,.i .u8,.bd,.b,.s,.i .i64,.i .i64,.s,.s,.i .u8,.i .u8,.i .u8,.i .u8,.bd,.b,.s,.i .i64,.i .i64,.s,.s,.i .u8,.i .u8,.i .u8,.ws 1,.b,.b,.i .i64]
def RP (n:Nat):LP Tryz.prog Tryz.f207.ntmps:=bZ [] [] 0 (sb (acM [] [] Tryz.f207) 0) false ⟨[(0,.s),(1,.i .u8),(2,.i .u8),(7,.i .i64),(8,.i .i64)],[],0,0,0,0⟩ [] [⟨.exit 0,⟨[(7,.i .i64)],[],0,0,0,0⟩⟩] (oe n) n
def c207 (n:Nat):PF Tryz.prog 207 [.s,.i .u8,.i .u8] (.i .i64):=aH Tryz.func207 Tryz.call207 [] [RP n] [] [] (iO n)
def Ug (n:Nat):LP Tryz.prog Tryz.f148.ntmps:=bZ [] [] 0 (sb (acM [] [] Tryz.f148) 0) false ⟨[(0,.s),(1,.i .i64),(6,.i .i64),(7,.i .i64)],[],0,0,0,0⟩ [] [⟨.ret,⟨[(4,.i .i64),(5,.i .i64)],[],0,0,0,0⟩⟩,⟨.exit 0,⟨[(6,.i .i64)],[],0,0,0,0⟩⟩] (jK n) n
def c148 (n:Nat):PF Tryz.prog 148 q30 (.tp [.i .i64,.i .i64]):=aH Tryz.func148 Tryz.call148 [] [Ug n] [] [] (am n)
def c146 (n:Nat):PF Tryz.prog 146 q133 (.i .i64):=aH Tryz.func146 Tryz.call146 [(c207 n).e,(c148 n).e] [] [] [] (pI n)
def c147 (n:Nat):PF Tryz.prog 147 [.i .i64] (.s):=aH Tryz.func147 Tryz.call147 [] [] [] [] (fG n)
def c77E (n:Nat):List (FE Tryz.prog):=[(c147 n).e]
def V7 (n:Nat):LP Tryz.prog Tryz.f77.ntmps:=bZ (c77E n) [] 0 (sb (acM [] [] Tryz.f77) 0) false ⟨[(1,.p 0 0),(3,.i .i64)],[(0,.cells q20)],1,0,0,0⟩ [] [⟨.ret,q105⟩,⟨.exit 0,⟨[],[],1,0,0,0⟩⟩] (bD n) n
def c77 (n:Nat):PF Tryz.prog 77 q89 (.i .i64):=aH Tryz.func77 Tryz.call77 (c77E n) [V7 n] [] [] (aL n)
def c38 (n:Nat):PF Tryz.prog 38 q89 (.i .i64):=aH Tryz.func38 Tryz.call38 [] [] [] [] (aI n)
def c261 (n:Nat):PF Tryz.prog 261 q133 (.i .i64):=aH Tryz.func261 Tryz.call261 [(c207 n).e] [] [] [] (aO n)
def c210 (n:Nat):PF Tryz.prog 210 q89 (.i .i64):=aH Tryz.func210 Tryz.call210 [(c146 n).e,(c77 n).e,(c261 n).e,(c148 n).e] [] [] [] (pX n)
def c262 (n:Nat):PF Tryz.prog 262 q30 (.i .i64):=aH Tryz.func262 Tryz.call262 [(c147 n).e] [] [] [] (iJ n)
def Ux (n:Nat):List (FE Tryz.prog):=[(c262 n).e]
def TK (n:Nat):LP Tryz.prog Tryz.f211.ntmps:=bZ (Ux n) [] 0 (sb (acM [] [] Tryz.f211) 0) false q130 [] [⟨.ret,q120⟩,⟨.exit 0,q114⟩] (nv n) n
def c211 (n:Nat):PF Tryz.prog 211 q30 (.i .i64):=aH Tryz.func211 Tryz.call211 (Ux n) [TK n] [] [] (ij n)
def RF (n:Nat):LP Tryz.prog Tryz.f212.ntmps:=bZ [] [] 0 (sb (acM [] [] Tryz.f212) 0) false ⟨[(1,.i .i64),(2,.p 0 0),(5,.i .i64)],[(0,.ints .u8 3)],1,0,0,0⟩ [] q122 (dh n) n
def c212 (n:Nat):PF Tryz.prog 212 q126 (.i .i64):=aH Tryz.func212 Tryz.call212 [] [RF n] [] [] (bI n)
def c158 (n:Nat):PF Tryz.prog 158 q89 (.i .i64):=aH Tryz.func158 Tryz.call158 [(c210 n).e,(c77 n).e,(c211 n).e,(c38 n).e,(c212 n).e] [] [] [] (pQ n)
def QN (n:Nat):List (FE Tryz.prog):=[(c261 n).e,(c148 n).e]
def TS (n:Nat):LP Tryz.prog Tryz.f213.ntmps:=bZ (QN n) [] 0 (sb (acM [] [] Tryz.f213) 0) false ⟨[(1,.p 0 0),(4,.s),(5,.s),(6,.i .i64)],q109,1,0,0,0⟩ [] [⟨.exit 0,⟨[(1,.p 0 0),(4,.s),(5,.s)],q109,1,0,0,0⟩⟩] (nh n) n
def Rl (n:Nat):LP Tryz.prog Tryz.f213.ntmps:=bZ (QN n) [] 1 (sb (acM [] [] Tryz.f213) 1) false ⟨[(1,.p 0 0),(4,.s),(5,.s),(9,.i .i64)],q109,1,0,0,0⟩ [] [⟨.exit 2,⟨[(1,.p 0 0),(4,.s),(5,.s)],q109,1,0,0,0⟩⟩] (nr n) n
def c213 (n:Nat):PF Tryz.prog 213 q133 (.tp [.i .i64,.i .i64]):=aH Tryz.func213 Tryz.call213 (QN n) [TS n,Rl n] [] [] (qe n)
def Rw (n:Nat):List (FE Tryz.prog):=[(c261 n).e,(c148 n).e]
def Rk (n:Nat):LP Tryz.prog Tryz.f214.ntmps:=bZ (Rw n) [] 0 (sb (acM [] [] Tryz.f214) 0) false ⟨[(1,.i .i64),(2,.p 0 0),(5,.i .i64)],q109,1,0,0,0⟩ [] [⟨.ret,⟨q92,[],1,0,0,0⟩⟩,⟨.exit 0,⟨[(1,.i .i64)],[],1,0,0,0⟩⟩] (ek n) n
def c214 (n:Nat):PF Tryz.prog 214 [.ag q40,.i .i64] (.i .i64):=aH Tryz.func214 Tryz.call214 (Rw n) [Rk n] [] [] (sL n)
def Uk (n:Nat):List (FE Tryz.prog):=[(c77 n).e,(c262 n).e]
def US (n:Nat):LP Tryz.prog Tryz.f263.ntmps:=bZ (Uk n) [] 0 (sb (acM [] [] Tryz.f263) 0) false ⟨[(1,.p 0 0),(3,.ws 1),(4,.i .i64)],[(0,.cells q20),(1,.rows [.i .i64])],2,0,0,0⟩ [.nilT 3 1 [.i .i64]] [⟨.exit 0,⟨[(3,.ws 1)],[(1,.rows [.i .i64])],2,0,0,0⟩⟩] (lD n) n
def c263 (n:Nat):FF Tryz.prog 263 q89 [] 0 0 [⟨.ws 0,q80,[0],false⟩]:=funC Tryz.func263 Tryz.call263 (Uk n) [US n] [] [] [] (og n)
def c208 (n:Nat):PF Tryz.prog 208 [.i .i64,.i .i64] (.i .i64):=aH Tryz.func208 Tryz.call208 [] [] [] [] (gY n)
def Q3 (n:Nat):List (FE Tryz.prog):=[(c263 n).e,(c208 n).e,(c262 n).e]
def R9 (n:Nat):LP Tryz.prog Tryz.f215.ntmps:=bZ (Q3 n) [] 1 (sb (sb (acM [] [] Tryz.f215) 0).body 1) false ⟨[(1,.i .i64),(2,.p 0 0),(5,.ws 2),(6,.ws 1),(7,.i .i64),(8,.i .i64)],q74,3,0,0,0⟩ [] [⟨.exit 2,q106⟩] (nc n) n
def Q6 (n:Nat):LP Tryz.prog Tryz.f215.ntmps:=bZ (Q3 n) [R9 n] 0 (sb (acM [] [] Tryz.f215) 0) false q106 [.nilT 5 2 [.i .i64,.i .i64,.i .i64]] [⟨.exit 0,⟨[(5,.ws 2)],[(2,.rows [.i .i64,.i .i64,.i .i64])],3,0,0,0⟩⟩] (nz n) n
def c215 (n:Nat):FF Tryz.prog 215 [.ag q20,.i .i64] [] 0 0 [⟨.ws 0,[(0,.rows [.i .i64,.i .i64,.i .i64])],[0],false⟩]:=funC Tryz.func215 Tryz.call215 (Q3 n) [Q6 n] [] [] [] (pZ n)
def Rh (n:Nat):List (FE Tryz.prog):=[(c213 n).e,(c214 n).e,(c215 n).e]
def Uo (n:Nat):LP Tryz.prog Tryz.f159.ntmps:=bZ (Rh n) [] 0 (sb (acM [] [] Tryz.f159) 0) false ⟨[(1,.p 0 0),(4,.i .i64),(5,.i .i64)],[(0,.cells q20)],1,0,0,0⟩ [] [⟨.ret,q105⟩,⟨.exit 0,⟨[],[],1,0,0,0⟩⟩] (nl n) n
def c159 (n:Nat):PF Tryz.prog 159 q89 (.i .i64):=aH Tryz.func159 Tryz.call159 (Rh n) [Uo n] [] [] (pW n)
def c91 (n:Nat):PF Tryz.prog 91 q89 (.i .i64):=aH Tryz.func91 Tryz.call91 [(c158 n).e,(c159 n).e] [] [] [] (cQ n)
def VQ (n:Nat):LP Tryz.prog Tryz.f46.ntmps:=bZ [] [] 0 (sb (acM [] [] Tryz.f46) 0) false ⟨[(1,.p 0 0),(3,.s),(4,.i .i64)],[(0,.cells q20)],1,0,0,0⟩ [] [⟨.ret,q105⟩,⟨.exit 0,⟨[(1,.p 0 0)],[(0,.cells q20)],1,0,0,0⟩⟩] (dL n) n
def c46 (n:Nat):PF Tryz.prog 46 q89 (.i .i64):=aH Tryz.func46 Tryz.call46 [] [VQ n] [] [] (aU n)
def c79 (n:Nat):PF Tryz.prog 79 [.ag q45] (.i .i64):=aH Tryz.func79 Tryz.call79 [(c91 n).e,(c46 n).e] [] [] [] (gR n)
def Ue (n:Nat):List (FE Tryz.prog):=[(c208 n).e]
def RI (n:Nat):LP Tryz.prog Tryz.f149.ntmps:=bZ (Ue n) [] 0 (sb (acM [] [] Tryz.f149) 0) false ⟨[(0,.i .i64),(4,.i .i64),(5,.i .i64)],[],0,0,0,0⟩ [] [⟨.exit 0,q120⟩] (jM n) n
def c149 (n:Nat):PF Tryz.prog 149 [.i .i64] (.i .i64):=aH Tryz.func149 Tryz.call149 (Ue n) [RI n] [] [] (dV n)
def UT (n:Nat):LP Tryz.prog Tryz.f150.ntmps:=eP [] [] 1006 (sb (sb (acM [] [4,6,11,13,18,20,25,27,32,34,36,41,43] Tryz.f150) 1004) 1006) false q78 [⟨.nrm,q78⟩] (ly n)
def Uu (n:Nat):LP Tryz.prog Tryz.f150.ntmps:=eP [] [UT n] 1004 (sb (acM [] [4,6,11,13,18,20,25,27,32,34,36,41,43] Tryz.f150) 1004) false q78 [⟨.nrm,q78⟩] (lF n)
def Qd (n:Nat):LP Tryz.prog Tryz.f150.ntmps:=eP [] [] 1013 (sb (sb (acM [] [4,6,11,13,18,20,25,27,32,34,36,41,43] Tryz.f150) 1011) 1013) false q79 [⟨.nrm,q79⟩] (lh n)
def QW (n:Nat):LP Tryz.prog Tryz.f150.ntmps:=eP [] [Qd n] 1011 (sb (acM [] [4,6,11,13,18,20,25,27,32,34,36,41,43] Tryz.f150) 1011) false q79 [⟨.nrm,q79⟩] (kY n)
def Qf (n:Nat):LP Tryz.prog Tryz.f150.ntmps:=eP [] [] 1020 (sb (sb (acM [] [4,6,11,13,18,20,25,27,32,34,36,41,43] Tryz.f150) 1018) 1020) false q76 [⟨.nrm,q76⟩] (kX n)
def QZ (n:Nat):LP Tryz.prog Tryz.f150.ntmps:=eP [] [Qf n] 1018 (sb (acM [] [4,6,11,13,18,20,25,27,32,34,36,41,43] Tryz.f150) 1018) false q76 [⟨.nrm,q76⟩] (kV n)
def PZ (n:Nat):LP Tryz.prog Tryz.f150.ntmps:=eP [] [] 1027 (sb (sb (acM [] [4,6,11,13,18,20,25,27,32,34,36,41,43] Tryz.f150) 1025) 1027) false q77 [⟨.nrm,q77⟩] (lc n)
def QK (n:Nat):LP Tryz.prog Tryz.f150.ntmps:=eP [] [PZ n] 1025 (sb (acM [] [4,6,11,13,18,20,25,27,32,34,36,41,43] Tryz.f150) 1025) false q77 [⟨.nrm,q77⟩] (kL n)
def P5 (n:Nat):LP Tryz.prog Tryz.f150.ntmps:=eP [] [] 1036 (sb (sb (sb (acM [] [4,6,11,13,18,20,25,27,32,34,36,41,43] Tryz.f150) 1032) 1034) 1036) false q57 [⟨.nrm,q57⟩] (kS n)
def PI (n:Nat):LP Tryz.prog Tryz.f150.ntmps:=eP [] [P5 n] 1034 (sb (sb (acM [] [4,6,11,13,18,20,25,27,32,34,36,41,43] Tryz.f150) 1032) 1034) false q57 [⟨.nrm,q57⟩] (li n)
def P8 (n:Nat):LP Tryz.prog Tryz.f150.ntmps:=eP [] [PI n] 1032 (sb (acM [] [4,6,11,13,18,20,25,27,32,34,36,41,43] Tryz.f150) 1032) false q57 [⟨.nrm,q57⟩] (kR n)
def Py (n:Nat):LP Tryz.prog Tryz.f150.ntmps:=eP [] [] 1043 (sb (sb (acM [] [4,6,11,13,18,20,25,27,32,34,36,41,43] Tryz.f150) 1041) 1043) false q127 q134 (kO n)
def Pm (n:Nat):LP Tryz.prog Tryz.f150.ntmps:=eP [] [Py n] 1041 (sb (acM [] [4,6,11,13,18,20,25,27,32,34,36,41,43] Tryz.f150) 1041) false q127 q134 (lk n)
def c150 (n:Nat):PF Tryz.prog 150 [.i .i64] (.tp [.i .i64,.i .i64]):=aH Tryz.func150 Tryz.call150 [] [Uu n,QW n,QZ n,QK n,P8 n,Pm n] [] [4,6,11,13,18,20,25,27,32,34,36,41,43] (ka n)
def SJ (n:Nat):List (FE Tryz.prog):=[(c149 n).e,(c208 n).e]
def RO (n:Nat):LP Tryz.prog Tryz.f151.ntmps:=bZ (SJ n) [] 0 (sb (acM [] [] Tryz.f151) 0) false q81 [] q104 (jX n) n
def c151 (n:Nat):PF Tryz.prog 151 [.i .i64,.i .i64] (.i .i64):=aH Tryz.func151 Tryz.call151 (SJ n) [RO n] [] [] (mZ n)
def Lr (n:Nat):List (FE Tryz.prog):=[(c151 n).e,(c149 n).e,(c208 n).e]
def MN (n:Nat):LP Tryz.prog Tryz.f151.ntmps:=bZ (Lr n) [] 0 (sb (acM [] [] Tryz.f151) 0) false q81 [] q104 (jT n) n
def UZ (n:Nat):PF Tryz.prog 151 [.i .i64,.i .i64] (.i .i64):=aH Tryz.func151 Tryz.call151 (Lr n) [MN n] [] [] (mO n)
def Jd (n:Nat):List (FE Tryz.prog):=[(UZ n).e,(c149 n).e,(c208 n).e]
def Nq (n:Nat):LP Tryz.prog Tryz.f151.ntmps:=bZ (Jd n) [] 0 (sb (acM [] [] Tryz.f151) 0) false q81 [] q104 (mV n) n
def TL (n:Nat):PF Tryz.prog 151 [.i .i64,.i .i64] (.i .i64):=aH Tryz.func151 Tryz.call151 (Jd n) [Nq n] [] [] (bP n)
def c152 (n:Nat):PF Tryz.prog 152 [.s] (.i .i64):=aH Tryz.func152 Tryz.call152 [] [] [] [] (cj n)
def c80 (n:Nat):PF Tryz.prog 80 q89 (.tp [.i .i64,.i .i64]):=aH Tryz.func80 Tryz.call80 [(c148 n).e,(c77 n).e,(c149 n).e,(c150 n).e,(TL n).e,(c152 n).e] [] [] [] (bG n)
def c32 (n:Nat):PF Tryz.prog 32 [.ag q45,.ag q45] (.i .i64):=aH Tryz.func32 Tryz.call32 [(c79 n).e,(c80 n).e] [] [] [] (mL n)
def c41 (n:Nat):PF Tryz.prog 41 [.i .u8] (.s):=aH Tryz.func41 Tryz.call41 [] [] [] [] (mG n)
def c190 (n:Nat):FF Tryz.prog 190 [.p 0 0] q88 1 1 [⟨.s,[],[],false⟩]:=funC Tryz.func190 Tryz.call190 [] [] [] [] [0] (cc n)
def c128 (n:Nat):FF Tryz.prog 128 [.p 0 0] q88 1 1 [⟨.tp [.i .u8,.b],[],[],false⟩]:=funC Tryz.func128 Tryz.call128 [(c190 n).e] [] [] [] [0] (aZ n)
def c194 (n:Nat):FF Tryz.prog 194 [.p 0 0] q88 1 1 [⟨.i .i64,[],[],false⟩]:=funC Tryz.func194 Tryz.call194 [] [] [] [] [0] (br n)
def c193 (n:Nat):FF Tryz.prog 193 [.p 0 0,.i .i64,.i .i64] q88 1 1 [⟨.it 197 (.ag [.i .i64,.i .i64]),[],[],true⟩]:=funC Tryz.func193 Tryz.call193 [] [] [] [] [0] (aJ n)
def c304 (_n:Nat):FE Tryz.prog:=libF (KL Tryz.func304 (by kernel_rfl) (by kernel_rfl) (by kernel_rfl) (by kernel_rfl))
def c270 (n:Nat):PF Tryz.prog 270 [.s,.i .u8] (.i .i64):=aH Tryz.func270 Tryz.call270 [(c304 n)] [] [] [] (cL n)
def c249 (n:Nat):PF Tryz.prog 249 [.s,.i .u8] (.i .i64):=aH Tryz.func249 Tryz.call249 [(c270 n).e] [] [] [] (dc n)
def c191 (n:Nat):FF Tryz.prog 191 [.p 0 0,.s] q88 0 1 [⟨.it 197 (.ag [.i .i64,.i .i64]),q55,[],true⟩,⟨.i .u8,q55,[],false⟩]:=funC Tryz.func191 Tryz.call191 [(c128 n).e,(c194 n).e,(c193 n).e,(c249 n).e] [] [] [] [0] (bV n)
def c192 (n:Nat):PF Tryz.prog 192 [.i .u8] (.tp [.s,.s]):=aH Tryz.func192 Tryz.call192 [] [] [] [] (fP n)
def c295 (n:Nat):PF Tryz.prog 295 [.s,.s] (.b):=aH Tryz.func295 Tryz.call295 [] [] [] [] (fF n)
def c251 (n:Nat):PF Tryz.prog 251 [.s,.s] (.b):=aH Tryz.func251 Tryz.call251 [(c295 n).e] [] [] [] (iD n)
def c196 (n:Nat):FF Tryz.prog 196 [.p 0 0,.s] q88 1 1 [⟨.b,[],[],false⟩]:=funC Tryz.func196 Tryz.call196 [(c190 n).e,(c251 n).e] [] [] [] [0] (eZ n)
def c131 (n:Nat):FF Tryz.prog 131 [.p 0 0,.s] q88 0 1 [⟨.b,q55,[],false⟩]:=funC Tryz.func131 Tryz.call131 [(c196 n).e] [] [] [] [0] (aA n)
def c71 (n:Nat):PF Tryz.prog 71 [] (.ag [.s,.s,.s,.s]):=aH Tryz.func71 Tryz.call71 [] [] [] [] (rX n)
def VX (n:Nat):LP Tryz.prog Tryz.f72.ntmps:=bZ [] [] 0 (sb (acM [] [] Tryz.f72) 0) false ⟨[(0,.sl 0 0 4 (some (.k 4))),(1,.s),(7,.i .i64),(8,.i .i64)],[(0,.cells [.s,.s,.s,.s])],1,1,1,1⟩ [] q123 (gP n) n
def c72 (n:Nat):FF Tryz.prog 72 [.sl 0 0 4 (some (.k 4)),.s] [.cells [.s,.s,.s,.s]] 1 1 [⟨.i .i64,[],[],false⟩]:=funC Tryz.func72 Tryz.call72 [] [VX n] [] [] [0] (iK n)
def c26 (n:Nat):PF Tryz.prog 26 [.i .u8] (.tp [.i .u8,.b]):=aH Tryz.func26 Tryz.call26 [(c71 n).e,(c72 n).e] [] [] [] (pt n)
def c287 (n:Nat):FF Tryz.prog 287 [.p 0 0] [.cells [.p 1 0],.cells q30] 1 2 [⟨.it 197 (.ag [.i .i64,.i .i64]),q110,[],true⟩,⟨.i .u8,q110,[],false⟩]:=funC Tryz.func287 Tryz.call287 [(c128 n).e,(c26 n).e,(c191 n).e] [] [] [] [0,1] (cg n)
def R7 (n:Nat):List (FE Tryz.prog):=[(c194 n).e,(c128 n).e,(c249 n).e,(c193 n).e]
def UM (n:Nat):LP Tryz.prog Tryz.f288.ntmps:=bZ (R7 n) [] 0 (sb (acM [] [] Tryz.f288) 0) false ⟨[(0,.p 0 0),(1,.s),(2,.i .i64),(3,.i .i64),(9,.i .i64),(10,.i .u8),(11,.b)],q55,1,1,0,1⟩ [] [⟨.exit 0,⟨[(0,.p 0 0),(2,.i .i64),(9,.i .i64)],q55,1,1,0,1⟩⟩] (cJ n) n
def c288 (n:Nat):FF Tryz.prog 288 [.p 0 0,.s,.i .i64,.i .i64] q88 0 1 [⟨.it 197 (.ag [.i .i64,.i .i64]),q55,[],true⟩,⟨.s,q55,[],false⟩]:=funC Tryz.func288 Tryz.call288 (R7 n) [UM n] [] [] [0] (bO n)
noncomputable def MW (_n:Nat):Ent:=Qx 63 240
theorem Jg (n:Nat):fp Tryz.prog (MW n):=MD Tryz.call63 (λs n hl h w=>(Tryz.strconv_Atoi s n hl h w).mono λe w' ⟨h1,t,h2⟩=>⟨h1,h2▸pJ _ _ _⟩) (λs hl h w hg=>NP s hl h w hg)
def c63 (n:Nat):FE Tryz.prog:=libF (Jg n)
def c314 (n:Nat):FF Tryz.prog 314 [.s,.p 0 0] [.cells [.p 1 0],.cells q30] 1 2 [⟨.i .i64,q110,[],false⟩,⟨.it 197 (.ag [.i .i64,.i .i64]),q110,[],true⟩]:=funC Tryz.func314 Tryz.call314 [(c131 n).e,(c191 n).e,(c288 n).e,(c63 n)] [] [] [] [0,1] (cS n)
def c291 (n:Nat):FF Tryz.prog 291 [.p 0 0] q88 0 1 [⟨.it 197 (.ag [.i .i64,.i .i64]),q55,[],true⟩,⟨.ag q40,q55,[],false⟩]:=funC Tryz.func291 Tryz.call291 [(c131 n).e,(c191 n).e,(c288 n).e,(c314 n).e] [] [] [] [0] (kI n)
def c290 (n:Nat):FF Tryz.prog 290 q115 [.cells [.p 2 0],.cells q20,.cells q30] 1 3 [⟨.it 197 (.ag [.i .i64,.i .i64]),[(1,.cells q20),(2,.cells q30)],[],true⟩,⟨.tp [],[(1,.cells q20),(2,.cells q30)],[],false⟩]:=funC Tryz.func290 Tryz.call290 [(c291 n).e] [] [] [] [0,1,2] (jb n)
def c108 (n:Nat):PF Tryz.prog 108 [.i .u8] (.i .i64):=aH Tryz.func108 Tryz.call108 [] [] [] [] (gD n)
def RS (n:Nat):List (FE Tryz.prog):=[(c108 n).e]
def Ry (n:Nat):LP Tryz.prog Tryz.f100.ntmps:=bZ (RS n) [] 0 (sb (acM [] [] Tryz.f100) 0) false ⟨[(1,.i .i64),(13,.ai .u8 3),(14,.i .i64)],[],1,0,0,0⟩ [] q122 (gi n) n
def c100 (n:Nat):PF Tryz.prog 100 q126 (.i .i64):=aH Tryz.func100 Tryz.call100 (RS n) [Ry n] [] [] (dq n)
def c315 (n:Nat):FF Tryz.prog 315 [.i .i64,.p 2 0,.p 0 0,.p 1 0] [.ints .u8 3,.ints .u8 3,.cells [.i .u8]] 2 3 [⟨.i .u8,[(2,.cells [.i .u8])],[],false⟩]:=funC Tryz.func315 Tryz.call315 [] [] [] [] [2,0,1] (rS n)
def RZ (n:Nat):List (FE Tryz.prog):=[(c100 n).e,(c315 n).e]
def SA (n:Nat):LP Tryz.prog Tryz.f294.ntmps:=bZ (RZ n) [] 1 (sb (acM [0] [] Tryz.f294) 1) false ⟨[(6,.p 2 0),(12,.fn 315 [.p 5 0,.p 1 0,.p 0 0]),(13,.p 6 0),(14,.i .i64)],[(0,.ints .u8 3),(1,.ints .u8 3),(2,.ints .u8 3),(5,.cells [.i .u8]),(6,.ints .u8 3)],7,0,0,0⟩ [] [⟨.exit 2,⟨[(6,.p 2 0),(13,.p 6 0)],[(2,.ints .u8 3),(6,.ints .u8 3)],7,0,0,0⟩⟩] (qc n) n
def c294 (n:Nat):PF Tryz.prog 294 q119 (.tp q126):=aH Tryz.func294 Tryz.call294 (RZ n) [SA n] [0] [] (dW n)
def c289 (n:Nat):FF Tryz.prog 289 [.p 0 0] [.cells [.fn 1000288 [.p 1 0]],.cells q30] 1 2 [⟨.it 197 (.ag [.i .i64,.i .i64]),q110,[],true⟩,⟨.s,q110,[],false⟩]:=funC Tryz.func289 Tryz.call289 [(c288 n).e] [] [] [] [0,1] (gS n)
def c292 (n:Nat):FF Tryz.prog 292 [.p 0 0,.p 2 0] q99 2 4 [⟨.it 197 (.ag [.i .i64,.i .i64]),q96,[],true⟩,⟨.tp [],q96,[],false⟩]:=funC Tryz.func292 Tryz.call292 [(c289 n).e] [] [] [] [0,2,1,3] (jd n)
def c293 (n:Nat):FF Tryz.prog 293 [.p 0 0,.p 2 0] q99 2 4 [⟨.it 197 (.ag [.i .i64,.i .i64]),q96,[],true⟩,⟨.tp [],q96,[],false⟩]:=funC Tryz.func293 Tryz.call293 [(c289 n).e] [] [] [] [0,2,1,3] (je n)
def c250 (n:Nat):FF Tryz.prog 250 [.p 0 0] q88 0 1 [⟨.it 197 (.ag [.i .i64,.i .i64]),q55,[],true⟩,⟨.tp [.ag q20,.ai .i64 3],q55,[],false⟩]:=funC Tryz.func250 Tryz.call250 [(c287 n).e,(c194 n).e,(c290 n).e,(c294 n).e,(c131 n).e,(c292 n).e,(c293 n).e] [] [0] [] [0] (iU n)
def c96 (n:Nat):PF Tryz.prog 96 [.i .i64] (.i .i64):=aH Tryz.func96 Tryz.call96 [] [] [] [] (dp n)
theorem pure_seasons_Check (n:Nat):∀a r,dp n a=some r->jN Tryz.prog 96 (argP [.i .i64] a) (encP (.i .i64) r):=λa r h=>(c96 n).ok a r h
def c51 (n:Nat):PF Tryz.prog 51 q89 (.tp [.i .i64,.b]):=aH Tryz.func51 Tryz.call51 [(c63 n),(c96 n).e] [] [] [] (bh n)
def c306 (n:Nat):PF Tryz.prog 306 [.i .i32] (.b):=aH Tryz.func306 Tryz.call306 [] [] [] [] (dH n)
def J7 (n:Nat):List (FE Tryz.prog):=[(c249 n).e,(c306 n).e]
def TG (n:Nat):LP Tryz.prog Tryz.f275.ntmps:=bZ (J7 n) [] 0 (sb (acM [] [] Tryz.f275) 0) false ⟨[(175,.p 0 0)],[(0,.iter)],1,0,0,0⟩ [] [⟨.ret,⟨q92,[],1,0,0,0⟩⟩,⟨.exit 9,⟨[],[],1,0,0,0⟩⟩] (dw n) n
def TN (n:Nat):LP Tryz.prog Tryz.f275.ntmps:=bZ (J7 n) [] 2 (sb (sb (acM [] [] Tryz.f275) 1).body 2) false ⟨q121,[],128,0,0,0⟩ [] [⟨.exit 3,⟨[(8,.i .i64),(9,.i .i64)],[],128,0,0,0⟩⟩] (lz n) n
def Qb (n:Nat):LP Tryz.prog Tryz.f275.ntmps:=bZ (J7 n) [] 2 (sb (sb (acM [] [] Tryz.f275) 1).body 2) false ⟨q121,[],56,0,0,0⟩ [] [⟨.exit 3,⟨[(8,.i .i64),(9,.i .i64)],[],56,0,0,0⟩⟩] (la n) n
def Sv (n:Nat):LP Tryz.prog Tryz.f275.ntmps:=bZ (J7 n) [altL (TN n) (Qb n) rfl] 1 (sb (acM [] [] Tryz.f275) 1) false ⟨[(0,.s),(7,.s),(8,.i .i64),(9,.i .i64)],[],0,0,0,0⟩ [] [⟨.ret,q120⟩,⟨.exit 1,q114⟩] (du n) n
def c275 (n:Nat):PF Tryz.prog 275 [.s,.i .i32] (.i .i64):=aH Tryz.func275 Tryz.call275 (J7 n) [TG n,Sv n,noL 3 (sb (acM [] [] Tryz.f275) 3)] [] [] (dK n)
def c226 (n:Nat):PF Tryz.prog 226 [.s,.i .i32] (.b):=aH Tryz.func226 Tryz.call226 [(c275 n).e] [] [] [] (dA n)
def c225 (n:Nat):FF Tryz.prog 225 [.i .i32,.p 0 0] [.cells [.s]] 1 1 [⟨.b,[],[],false⟩]:=funC Tryz.func225 Tryz.call225 [(c226 n).e] [] [] [] [0] (jg n)
def Ru (n:Nat):List (FE Tryz.prog):=[(c225 n).e]
def TU (n:Nat):LP Tryz.prog Tryz.f274.ntmps:=bZ (Ru n) [] 0 (sb (acM [] [] Tryz.f274) 0) false ⟨[(1,.fn 225 [.p 0 0]),(2,.b),(10,.p 1 0)],[(0,.cells [.s]),(1,.iter)],2,1,1,1⟩ [] [⟨.ret,⟨[(6,.i .i64)],[],2,1,1,1⟩⟩,⟨.exit 0,⟨[],[],2,1,1,1⟩⟩] (cu n) n
def c274 (n:Nat):FF Tryz.prog 274 [.s,.fn 225 [.p 0 0],.b] [.cells [.s]] 1 1 [⟨.i .i64,[],[],false⟩]:=funC Tryz.func274 Tryz.call274 (Ru n) [TU n] [] [] [0] (kb n)
def c224 (n:Nat):FF Tryz.prog 224 [.s,.fn 225 [.p 0 0]] [.cells [.s]] 1 1 [⟨.i .i64,[],[],false⟩]:=funC Tryz.func224 Tryz.call224 [(c274 n).e] [] [] [] [0] (kw n)
def c164 (n:Nat):PF Tryz.prog 164 [.s,.s] (.b):=aH Tryz.func164 Tryz.call164 [(c224 n).e] [] [] [] (fC n)
def Tu (n:Nat):LP Tryz.prog Tryz.f228.ntmps:=bZ [] [] 0 (sb (acM [] [] Tryz.f228) 0) false ⟨[(0,.s),(1,.i .u8)],[],0,0,0,0⟩ [] [⟨.exit 0,⟨[(0,.s)],[],0,0,0,0⟩⟩] (di n) n
def c228 (n:Nat):PF Tryz.prog 228 [.s,.i .u8] (.s):=aH Tryz.func228 Tryz.call228 [] [Tu n] [] [] (fB n)
def SY (n:Nat):LP Tryz.prog Tryz.f227.ntmps:=bZ [] [] 0 (sb (acM [] [] Tryz.f227) 0) false ⟨[(0,.s),(1,.i .u8)],[],0,0,0,0⟩ [] [⟨.exit 0,⟨[(0,.s)],[],0,0,0,0⟩⟩] (eM n) n
def c227 (n:Nat):PF Tryz.prog 227 [.s,.i .u8] (.s):=aH Tryz.func227 Tryz.call227 [] [SY n] [] [] (fU n)
def c165 (n:Nat):PF Tryz.prog 165 [.s,.sk [48]] (.s):=aH Tryz.func165 Tryz.call165 [(c228 n).e,(c227 n).e] [] [] [] (nq n)
def c223 (n:Nat):PF Tryz.prog 223 [.s,.sk [88]] (.i .i64):=aH Tryz.func223 Tryz.call223 [(c270 n).e] [noL 0 (sb (acM [] [] Tryz.f223) 0)] [] [] (iw n)
def c163 (n:Nat):PF Tryz.prog 163 [.s,.sk [88]] (.i .i64):=aH Tryz.func163 Tryz.call163 [(c223 n).e] [] [] [] (l6 n)
def c97 (n:Nat):PF Tryz.prog 97 [.s,.sk [88]] (.b):=aH Tryz.func97 Tryz.call97 [(c163 n).e] [] [] [] (gL n)
def c112 (n:Nat):PF Tryz.prog 112 q133 (.b):=aH Tryz.func112 Tryz.call112 [(c97 n).e] [] [] [] (cT n)
noncomputable def I8 (_n:Nat):Ent:=JG 174
theorem HB (n:Nat):fp Tryz.prog (I8 n):=Ko Tryz.call174 λs h v hv w=>(Tryz.strconv_ParseInt_10_at64_ok s h v hv w).mono λe w' ⟨h1,h2⟩=>⟨h1,h2.elim (λh=>h▸RowKit.Below.refl _ _) (λ⟨t,h⟩=>h▸pJ _ _ _)⟩
def c174 (n:Nat):FE Tryz.prog:=libF (HB n)
def Ua (n:Nat):LP Tryz.prog Tryz.f175.ntmps:=bZ [] [] 0 (sb (acM [] [] Tryz.f175) 0) false ⟨[(4,.i .i64),(9,.i .i64),(10,.i .i64)],[],0,0,0,0⟩ [] [⟨.exit 0,q120⟩] (jC n) n
def c175 (n:Nat):PF Tryz.prog 175 [.i .i64] (.tp [.i .i64,.i .i64]):=aH Tryz.func175 Tryz.call175 [] [Ua n] [] [] (oa n)
def c239 (n:Nat):PF Tryz.prog 239 [.i .i64] (.i .u64):=aH Tryz.func239 Tryz.call239 [] [] [] [] (tK n)
def c238 (n:Nat):PF Tryz.prog 238 [.i .u64,.i .u64] (.tp [.i .u64,.i .u64]):=aH Tryz.func238 Tryz.call238 [] [] [] [] (jI n)
def c240 (n:Nat):PF Tryz.prog 240 [.i .u64,.b] (.tp [.i .i64,.i .i64]):=aH Tryz.func240 Tryz.call240 [] [] [] [] (sC n)
def c176 (n:Nat):PF Tryz.prog 176 [.i .i64,.i .i64] (.tp [.i .i64,.i .i64]):=aH Tryz.func176 Tryz.call176 [(c239 n).e,(c238 n).e,(c240 n).e] [] [] [] (uL n)
def c113 (n:Nat):PF Tryz.prog 113 q133 (.tp [.i .i64,.i .i64]):=aH Tryz.func113 Tryz.call113 [(c174 n),(c175 n).e,(c176 n).e] [] [] [] (dM n)
def c166 (n:Nat):PF Tryz.prog 166 q133 (.b):=aH Tryz.func166 Tryz.call166 [(c164 n).e,(c113 n).e] [] [] [] (aS n)
def c103 (n:Nat):PF Tryz.prog 103 q133 (.i .i64):=aH Tryz.func103 Tryz.call103 [(c164 n).e,(c165 n).e,(c112 n).e,(c166 n).e] [] [] [] (cb n)
theorem pure_yearforms_Check (n:Nat):∀a r,cb n a.1 a.2.1 a.2.2.1 a.2.2.2.1 a.2.2.2.2=some r->jN Tryz.prog 103 (argP q133 a) (encP (.i .i64) r):=λa r h=>(c103 n).ok a r h
def c62 (n:Nat):PF Tryz.prog 62 q133 (.tp [.i .i64,.i .i64]):=aH Tryz.func62 Tryz.call62 [(c103 n).e,(c112 n).e,(c113 n).e] [] [] [] (dX n)
noncomputable def yA (l:List V):Option (Int):=match l with
 | [.i .i64 a0]=>some (a0)
 | _=>none
noncomputable def IJ (n:Nat):Ent:=Bz 182 yA (λa=>eW n a) (λr=>.tp [.i .i64 r.1,.i .i64 r.2.1,.i .i64 r.2.2])
theorem GN (n:Nat):fp Tryz.prog (IJ n):=tL (arg:=λa=>[.i .i64 a]) Tryz.call182 (λl a h=>by
 unfold yA at h
 split at h
 ·cases h;rfl
 ·cases h) (λa=>rfl) (λa r h=>sj n (λx r h=>pure_seasons_Check n x r h) a r h)
def c182 (n:Nat):FE Tryz.prog:=libF (GN n)
def c184 (n:Nat):PF Tryz.prog 184 [.i .i64] (.i .i64):=aH Tryz.func184 Tryz.call184 [] [] [] [] (iy n)
def c187 (n:Nat):PF Tryz.prog 187 [.i .i64,.i .i64] (.i .i64):=aH Tryz.func187 Tryz.call187 [(c184 n).e] [] [] [] (jo n)
def c286 (n:Nat):PF Tryz.prog 286 [.i .i64,.i .i64] (.tp [.i .i64,.i .i64]):=aH Tryz.func286 Tryz.call286 [] [] [] [] (Gf n)
def c245 (n:Nat):PF Tryz.prog 245 [.i .i64,.i .i64] (.tp [.i .i64,.i .i64]):=aH Tryz.func245 Tryz.call245 [(c286 n).e] [] [] [] (kG n)
theorem pure_ints_Div (n:Nat):∀a r,kG n a.1 a.2=some r->jN Tryz.prog 245 (argP [.i .i64,.i .i64] a) (encP (.tp [.i .i64,.i .i64]) r):=λa r h=>(c245 n).ok a r h
noncomputable def yh (l:List V):Option (Int):=match l with
 | [.i .i64 a0]=>some (a0)
 | _=>none
noncomputable def HY (n:Nat):Ent:=Bz 247 yh (λa=>eS n a) (λr=>.i .i64 r)
theorem Hf (n:Nat):fp Tryz.prog (HY n):=tL (arg:=λa=>[.i .i64 a]) Tryz.call247 (λl a h=>by
 unfold yh at h
 split at h
 ·cases h;rfl
 ·cases h) (λa=>rfl) (λa r h=>tV n (λx y r h=>pure_ints_Div n (x,y) r h) a r h)
def c247 (n:Nat):FE Tryz.prog:=libF (Hf n)
def c185 (n:Nat):PF Tryz.prog 185 [.i .i64] (.i .i64):=aH Tryz.func185 Tryz.call185 [(c247 n)] [] [] [] (kA n)
def c119 (n:Nat):PF Tryz.prog 119 [.i .i64] (.tp [.i .i64,.i .i64]):=aH Tryz.func119 Tryz.call119 [(c184 n).e,(c185 n).e] [] [] [] (ke n)
def c248 (n:Nat):PF Tryz.prog 248 [.i .i64] (.tp [.b,.i .i64]):=aH Tryz.func248 Tryz.call248 [(c184 n).e,(c247 n)] [] [] [] (jr n)
theorem pure_years_Leap (n:Nat):∀a r,jr n a=some r->jN Tryz.prog 248 (argP [.i .i64] a) (encP (.tp [.b,.i .i64]) r):=λa r h=>(c248 n).ok a r h
noncomputable def yn (l:List V):Option (Int×Int):=match l with
 | [.i .i64 a0,.i .i64 a1]=>some (a0,a1)
 | _=>none
noncomputable def Lj (n:Nat):Ent:=Bz 188 yn (λa=>dS n a.1 a.2) (λr=>.i .i64 r)
theorem Hz (n:Nat):fp Tryz.prog (Lj n):=tL (arg:=λa=>[.i .i64 a.1,.i .i64 a.2]) Tryz.call188 (λl a h=>by
 unfold yn at h
 split at h
 ·cases h;rfl
 ·cases h) (λa=>rfl) (λa r h=>tz n (λx r h=>pure_years_Leap n x r h) a.1 a.2 r h)
def c188 (n:Nat):FE Tryz.prog:=libF (Hz n)
def Tc (n:Nat):List (FE Tryz.prog):=[(c187 n).e,(c119 n).e,(c188 n)]
def RA (n:Nat):LP Tryz.prog Tryz.f123.ntmps:=bZ (Tc n) [] 0 (sb (acM [] [] Tryz.f123) 0) false ⟨[(0,.i .i64),(7,.i .i64),(22,.i .i64),(23,.i .i64)],[],0,0,0,0⟩ [] [⟨.exit 0,⟨[(7,.i .i64)],[],0,0,0,0⟩⟩] (bz n) n
def c123 (n:Nat):PF Tryz.prog 123 [.i .i64,.i .i64] (.tp [.i .i64,.i .i64]):=aH Tryz.func123 Tryz.call123 (Tc n) [RA n] [] [] (eV n)
noncomputable def xZ (l:List V):Option (Int×Int):=match l with
 | [.i .i64 a0,.i .i64 a1]=>some (a0,a1)
 | _=>none
noncomputable def I2 (n:Nat):Ent:=Bz 244 xZ (λa=>rr n a.1 a.2) (λr=>.tp [.i .i64 r.1,.i .i64 r.2])
theorem GX (n:Nat):fp Tryz.prog (I2 n):=tL (arg:=λa=>[.i .i64 a.1,.i .i64 a.2]) Tryz.call244 (λl a h=>by
 unfold xZ at h
 split at h
 ·cases h;rfl
 ·cases h) (λa=>rfl) (λa r h=>Ah n a.1 a.2 r h)
def c244 (n:Nat):FE Tryz.prog:=libF (GX n)
def c246 (n:Nat):PF Tryz.prog 246 [.i .i64,.i .i64] (.tp [.i .i64,.i .i64]):=aH Tryz.func246 Tryz.call246 [] [] [] [] (va n)
def c183 (n:Nat):PF Tryz.prog 183 [.i .i64,.i .i64,.i .i64] (.tp [.i .i64,.i .i64,.i .i64]):=aH Tryz.func183 Tryz.call183 [(c187 n).e,(c244 n),(c245 n).e,(c246 n).e,(c184 n).e] [] [] [] (nT n)
def c124 (n:Nat):PF Tryz.prog 124 [.i .i64,.i .i64] (.tp [.i .i64,.i .i64]):=aH Tryz.func124 Tryz.call124 [(c123 n).e,(c188 n)] [] [] [] (f8 n)
def c117 (n:Nat):PF Tryz.prog 117 [.i .i64,.i .i64] (.tp [.ag q66,.i .i64]):=aH Tryz.func117 Tryz.call117 [(c182 n),(c123 n).e,(c183 n).e,(c124 n).e] [] [] [] (gz n)
def c98 (n:Nat):PF Tryz.prog 98 q89 (.b):=aH Tryz.func98 Tryz.call98 [(c103 n).e,(c51 n).e,(c112 n).e,(c62 n).e,(c117 n).e] [] [] [] (fb n)
def Wa (n:Nat):LP Tryz.prog Tryz.f99.ntmps:=bZ [] [] 0 (sb (acM [] [] Tryz.f99) 0) false q130 [] [⟨.ret,⟨[(4,.b)],[],0,0,0,0⟩⟩,⟨.exit 0,q114⟩] (cZ n) n
def c99 (n:Nat):PF Tryz.prog 99 q30 (.b):=aH Tryz.func99 Tryz.call99 [] [Wa n] [] [] (cR n)
def VZ (n:Nat):LP Tryz.prog Tryz.f52.ntmps:=bZ [] [] 0 (sb (acM [] [] Tryz.f52) 0) false ⟨[(3,.i .i64),(10,.ag [.s,.s]),(11,.i .i64)],[],1,0,0,0⟩ [] [⟨.exit 0,⟨[(3,.i .i64)],[],1,0,0,0⟩⟩] (bN n) n
def c52 (n:Nat):PF Tryz.prog 52 q89 (.i .i64):=aH Tryz.func52 Tryz.call52 [] [VZ n] [] [] (aV n)
def c55 (n:Nat):PF Tryz.prog 55 q89 (.i .i64):=aH Tryz.func55 Tryz.call55 [(c51 n).e,(c98 n).e,(c99 n).e,(c52 n).e,(c100 n).e] [] [] [] (ig n)
def c237 (n:Nat):PF Tryz.prog 237 q30 (.b):=aH Tryz.func237 Tryz.call237 [] [] [] [] (jA n)
def RH (n:Nat):List (FE Tryz.prog):=[(c237 n).e]
def Ut (n:Nat):LP Tryz.prog Tryz.f170.ntmps:=bZ (RH n) [] 0 (sb (acM [] [] Tryz.f170) 0) false ⟨[(0,.s),(5,.ws 0),(7,.i .i64),(8,.i .i64)],q80,1,0,0,0⟩ [.nilT 5 0 [.i .i64]] [⟨.exit 0,⟨[(5,.ws 0)],q80,1,0,0,0⟩⟩] (ft n) n
def c170 (n:Nat):FF Tryz.prog 170 q30 [] 0 0 [⟨.ws 0,q80,[0],false⟩]:=funC Tryz.func170 Tryz.call170 (RH n) [Ut n] [] [] [] (eN n)
def c110 (n:Nat):FF Tryz.prog 110 q89 [] 0 0 [⟨.ag q38,[(0,.rows [.i .i64]),(1,.rows [.i .i64])],[0,1],false⟩]:=funC Tryz.func110 Tryz.call110 [(c51 n).e,(c170 n).e] [] [] [] [] (pq n)
def c171 (n:Nat):FF Tryz.prog 171 [.ws 0] q97 1 1 [⟨.ws 1,[(1,.rows [.i .i64])],[1],false⟩]:=funC Tryz.func171 Tryz.call171 [] [] [] [] [0] (iM n)
def SH (n:Nat):LP Tryz.prog Tryz.f172.ntmps:=bZ [] [] 0 (sb (acM [] [] Tryz.f172) 0) false ⟨[(0,.ws 0),(2,.i .i64),(3,.i .i64)],q80,1,1,0,1⟩ [] [⟨.exit 0,⟨[],q80,1,1,0,1⟩⟩] (ja n) n
def c172 (n:Nat):FF Tryz.prog 172 [.ws 0] q97 0 1 [⟨.tp [],q80,[],false⟩]:=funC Tryz.func172 Tryz.call172 [] [SH n] [] [] [0] (g9 n)
def Ud (n:Nat):LP Tryz.prog Tryz.f200.ntmps:=bZ [] [] 0 (sb (acM [] [] Tryz.f200) 0) false ⟨[(0,.s),(9,.p 0 0)],[(0,.iter)],1,0,0,0⟩ [] [⟨.ret,q105⟩,⟨.exit 0,⟨[(0,.s)],[],1,0,0,0⟩⟩] (gV n) n
def c200 (n:Nat):PF Tryz.prog 200 [.s] (.i .i64):=aH Tryz.func200 Tryz.call200 [] [Ud n] [] [] (jl n)
def S5 (n:Nat):LP Tryz.prog Tryz.f321.ntmps:=bZ [] [] 0 (sb (acM [] [] Tryz.f321) 0) false ⟨[(1,.i .u8),(5,.i .i64),(9,.ws 0),(10,.i .i64),(11,.i .i64)],[(0,.rows [.i .u8])],1,0,0,0⟩ [] [⟨.exit 0,⟨[(5,.i .i64)],[],1,0,0,0⟩⟩] (fX n) n
def c321 (n:Nat):PF Tryz.prog 321 [.s,.i .u8] (.i .i64):=aH Tryz.func321 Tryz.call321 [] [S5 n] [] [] (kZ n)
def c300 (n:Nat):PF Tryz.prog 300 [.s] (.tp [.i .i64,.i .i64]):=aH Tryz.func300 Tryz.call300 [(c200 n).e,(c321 n).e] [] [] [] (oH n)
def c201 (n:Nat):PF Tryz.prog 201 [.i .i64] (.i .i64):=aH Tryz.func201 Tryz.call201 [(c175 n).e] [] [] [] (oK n)
def c301 (n:Nat):PF Tryz.prog 301 q30 (.b):=aH Tryz.func301 Tryz.call301 [(c201 n).e] [] [] [] (kN n)
def Tn (n:Nat):LP Tryz.prog Tryz.f322.ntmps:=bZ [] [] 0 (sb (acM [] [] Tryz.f322) 0) false ⟨[(1,.i .i64),(4,.p 0 0),(5,.i .i64)],[(0,.ints .u8 18)],1,0,0,0⟩ [] [⟨.exit 0,⟨[(4,.p 0 0)],[(0,.ints .u8 18)],1,0,0,0⟩⟩] (gX n) n
def c322 (n:Nat):PF Tryz.prog 322 q30 (.ai .u8 18):=aH Tryz.func322 Tryz.call322 [] [Tn n] [] [] (kq n)
def c323 (n:Nat):PF Tryz.prog 323 [.s,.ai .u8 18] (.i .i64):=aH Tryz.func323 Tryz.call323 [(c321 n).e] [] [] [] (fH n)
def M3 (n:Nat):List (FE Tryz.prog):=[(c322 n).e,(c323 n).e]
def Ul (n:Nat):LP Tryz.prog Tryz.f302.ntmps:=bZ (M3 n) [] 0 (sb (acM [] [] Tryz.f302) 0) false q75 [] [⟨.exit 0,q75⟩] (fe n) n
def R1 (n:Nat):LP Tryz.prog Tryz.f302.ntmps:=bZ (M3 n) [] 1 (sb (acM [] [] Tryz.f302) 1) false ⟨[(0,.s),(2,.b),(8,.i .u8),(9,.i .u8),(10,.p 0 0),(11,.p 1 0),(12,.i .i64)],[(0,.ints .u8 18),(1,.ints .u8 18)],74,0,0,0⟩ [] [⟨.ret,⟨[(6,.i .i64),(7,.i .i64)],[],74,0,0,0⟩⟩,⟨.exit 2,⟨[(0,.s),(2,.b),(8,.i .u8),(11,.p 1 0),(12,.i .i64)],[(1,.ints .u8 18)],74,0,0,0⟩⟩] (ca n) n
def U6 (n:Nat):LP Tryz.prog Tryz.f302.ntmps:=bZ (M3 n) [] 2 (sb (acM [] [] Tryz.f302) 2) false ⟨[(0,.s),(8,.i .u8),(11,.p 1 0),(12,.i .i64)],[(1,.ints .u8 18)],74,0,0,0⟩ [] [⟨.exit 5,⟨[(0,.s),(11,.p 1 0)],[(1,.ints .u8 18)],74,0,0,0⟩⟩] (bi n) n
def c302 (n:Nat):PF Tryz.prog 302 [.s,.i .i64,.b] (.tp [.i .i64,.i .i64]):=aH Tryz.func302 Tryz.call302 (M3 n) [Ul n,R1 n,U6 n] [] [] (de n)
def c259 (n:Nat):PF Tryz.prog 259 q30 (.tp [.i .i64,.i .i64]):=aH Tryz.func259 Tryz.call259 [(c200 n).e,(c300 n).e,(c301 n).e,(c302 n).e] [] [] [] (rq n)
def c303 (n:Nat):PF Tryz.prog 303 [.s] (.tp [.i .i64,.i .i64]):=aH Tryz.func303 Tryz.call303 [(c200 n).e,(c321 n).e] [] [] [] (kC n)
def c260 (n:Nat):PF Tryz.prog 260 q30 (.tp [.i .i64,.i .i64]):=aH Tryz.func260 Tryz.call260 [(c200 n).e,(c301 n).e,(c303 n).e,(c302 n).e] [] [] [] (rn n)
def c203 (n:Nat):PF Tryz.prog 203 [.s,.i .i64,.b,.i .i64] (.tp [.i .i64,.b]):=aH Tryz.func203 Tryz.call203 [(c259 n).e,(c260 n).e] [] [] [] (fc n)
def c140 (n:Nat):FF Tryz.prog 140 [.ag q38,.i .i64,.b] q112 2 2 [⟨.tp [.i .i64,.b],[],[],false⟩]:=funC Tryz.func140 Tryz.call140 [(c112 n).e,(c62 n).e,(c203 n).e] [] [] [] [0,1] (bX n)
def c173 (n:Nat):FF Tryz.prog 173 [.i .i64,.i .i64,.p 0 0] [.cells [.b]] 1 1 [⟨.b,[],[],false⟩]:=funC Tryz.func173 Tryz.call173 [] [] [] [] [0] (cw n)
def c204 (n:Nat):PF Tryz.prog 204 [.i .i64,.i .i64] (.tp [.i .i64,.i .i64]):=aH Tryz.func204 Tryz.call204 [(c187 n).e,(c188 n)] [] [] [] (oi n)
def c141 (n:Nat):FF Tryz.prog 141 [.ag q38,.i .i64,.i .i64] q112 2 2 [⟨.i .i64,[],[],false⟩]:=funC Tryz.func141 Tryz.call141 [(c204 n).e] [] [] [] [0,1] (eC n)
def rB (n:Nat):List (FE Tryz.prog):=[(c171 n).e,(c172 n).e,(c140 n).e,(c173 n).e,(c141 n).e]
def SC (n:Nat):LP Tryz.prog Tryz.f111.ntmps:=eP (rB n) [] 1003 (sb (acM [] [3,17,20,23,30] Tryz.f111) 1003) false ⟨[(3,.p 2 0),(4,.p 3 0),(5,.p 4 0),(6,.p 5 0),(8,.ik .i64 1),(9,.ws 0),(10,.ws 1),(25,.b)],q70,62,2,2,2⟩ [⟨.nrm,⟨[(3,.p 2 0),(4,.p 3 0),(5,.p 4 0),(6,.p 5 0),(8,.ik .i64 (-1)),(9,.ws 62),(10,.ws 63)],[(0,.rows [.i .i64]),(1,.rows [.i .i64]),(2,.cells q38),(3,.cells [.i .i64,.i .i64,.i .i64]),(4,.cells [.b]),(5,.cells [.ik .i64 0,.ik .i64 0,.ik .i64 0]),(62,.rows [.i .i64]),(63,.rows [.i .i64])],64,2,2,2⟩⟩,⟨.nrm,⟨[(3,.p 2 0),(4,.p 3 0),(5,.p 4 0),(6,.p 5 0),(8,.ik .i64 1),(9,.ws 0),(10,.ws 1)],q70,62,2,2,2⟩⟩] (ic n)
def JV (n:Nat):LP Tryz.prog Tryz.f111.ntmps:=eP (rB n) [] 1020 (sb (sb (sb (sb (acM [] [3,17,20,23,30] Tryz.f111) 0).body 1).body 1017) 1020) false ⟨[(3,.p 2 0),(4,.p 3 0),(5,.p 4 0),(6,.p 5 0),(8,.i .i64),(9,.ws 62),(10,.ws 63),(11,.fn 173 [.p 4 0]),(12,.i .i64),(15,.i .i64),(16,.b),(53,.ws 62),(54,.i .i64),(55,.i .i64)],q15,64,2,2,2⟩ [⟨.nrm,⟨[(3,.p 2 0),(4,.p 3 0),(5,.p 4 0),(6,.p 5 0),(8,.i .i64),(9,.ws 62),(10,.ws 63),(11,.fn 173 [.p 4 0]),(12,.i .i64),(15,.i .i64),(16,.b),(53,.ws 62),(54,.i .i64),(55,.i .i64),(76,.b)],q15,64,2,2,2⟩⟩] (jW n)
def ED (n:Nat):LP Tryz.prog Tryz.f111.ntmps:=eP (rB n) [] 1020 (sb (sb (sb (sb (acM [] [3,17,20,23,30] Tryz.f111) 0).body 1).body 1017) 1020) false ⟨[(3,.p 2 0),(4,.p 3 0),(5,.p 4 0),(6,.p 5 0),(8,.i .i64),(9,.ws 0),(10,.ws 1),(11,.fn 173 [.p 4 0]),(12,.i .i64),(15,.i .i64),(16,.b),(53,.ws 0),(54,.i .i64),(55,.i .i64)],q18,62,2,2,2⟩ [⟨.nrm,⟨[(3,.p 2 0),(4,.p 3 0),(5,.p 4 0),(6,.p 5 0),(8,.i .i64),(9,.ws 0),(10,.ws 1),(11,.fn 173 [.p 4 0]),(12,.i .i64),(15,.i .i64),(16,.b),(53,.ws 0),(54,.i .i64),(55,.i .i64),(76,.b)],q18,62,2,2,2⟩⟩] (eI n)
def Le (n:Nat):LP Tryz.prog Tryz.f111.ntmps:=eP (rB n) [] 1023 (sb (sb (sb (sb (acM [] [3,17,20,23,30] Tryz.f111) 0).body 1).body 1017) 1023) false q61 [⟨.nrm,q61⟩] (jY n)
def GE (n:Nat):LP Tryz.prog Tryz.f111.ntmps:=eP (rB n) [] 1023 (sb (sb (sb (sb (acM [] [3,17,20,23,30] Tryz.f111) 0).body 1).body 1017) 1023) false q62 [⟨.nrm,q62⟩] (eF n)
def Ja (n:Nat):LP Tryz.prog Tryz.f111.ntmps:=eP (rB n) [] 1030 (sb (sb (sb (sb (sb (acM [] [3,17,20,23,30] Tryz.f111) 0).body 1).body 1017) 2).body 1030) false ⟨[(3,.p 2 0),(4,.p 3 0),(5,.p 4 0),(6,.p 5 0),(8,.i .i64),(9,.ws 62),(10,.ws 63),(11,.fn 173 [.p 4 0]),(12,.i .i64),(15,.i .i64),(16,.b),(17,.i .i64),(19,.i .i64),(53,.ws 62),(54,.i .i64),(55,.i .i64),(94,.ws 63),(95,.i .i64),(96,.i .i64)],q15,64,2,2,2⟩ [⟨.nrm,⟨[(3,.p 2 0),(4,.p 3 0),(5,.p 4 0),(6,.p 5 0),(8,.i .i64),(9,.ws 62),(10,.ws 63),(11,.fn 173 [.p 4 0]),(12,.i .i64),(15,.i .i64),(16,.b),(17,.i .i64),(19,.i .i64),(53,.ws 62),(54,.i .i64),(55,.i .i64),(94,.ws 63),(95,.i .i64),(96,.i .i64),(119,.b)],q15,64,2,2,2⟩⟩] (jS n)
def Gj (n:Nat):LP Tryz.prog Tryz.f111.ntmps:=eP (rB n) [] 1030 (sb (sb (sb (sb (sb (acM [] [3,17,20,23,30] Tryz.f111) 0).body 1).body 1017) 2).body 1030) false ⟨[(3,.p 2 0),(4,.p 3 0),(5,.p 4 0),(6,.p 5 0),(8,.i .i64),(9,.ws 0),(10,.ws 1),(11,.fn 173 [.p 4 0]),(12,.i .i64),(15,.i .i64),(16,.b),(17,.i .i64),(19,.i .i64),(53,.ws 0),(54,.i .i64),(55,.i .i64),(94,.ws 1),(95,.i .i64),(96,.i .i64)],q18,62,2,2,2⟩ [⟨.nrm,⟨[(3,.p 2 0),(4,.p 3 0),(5,.p 4 0),(6,.p 5 0),(8,.i .i64),(9,.ws 0),(10,.ws 1),(11,.fn 173 [.p 4 0]),(12,.i .i64),(15,.i .i64),(16,.b),(17,.i .i64),(19,.i .i64),(53,.ws 0),(54,.i .i64),(55,.i .i64),(94,.ws 1),(95,.i .i64),(96,.i .i64),(119,.b)],q18,62,2,2,2⟩⟩] (gC n)
def OT (n:Nat):LP Tryz.prog Tryz.f111.ntmps:=bZ (rB n) [altL (Ja n) (Gj n) rfl] 2 (sb (sb (sb (sb (acM [] [3,17,20,23,30] Tryz.f111) 0).body 1).body 1017) 2) false ⟨[(3,.p 2 0),(4,.p 3 0),(5,.p 4 0),(6,.p 5 0),(8,.i .i64),(9,.ws 62),(10,.ws 63),(11,.fn 173 [.p 4 0]),(12,.i .i64),(15,.i .i64),(16,.b),(17,.i .i64),(53,.ws 62),(54,.i .i64),(55,.i .i64),(94,.ws 63),(95,.i .i64),(96,.i .i64)],q15,64,2,2,2⟩ [] [⟨.ret,q128⟩,⟨.exit 4,q37⟩] (k9 n) n
def H5 (n:Nat):LP Tryz.prog Tryz.f111.ntmps:=bZ (rB n) [altL (Ja n) (Gj n) rfl] 2 (sb (sb (sb (sb (acM [] [3,17,20,23,30] Tryz.f111) 0).body 1).body 1017) 2) false ⟨[(3,.p 2 0),(4,.p 3 0),(5,.p 4 0),(6,.p 5 0),(8,.i .i64),(9,.ws 0),(10,.ws 1),(11,.fn 173 [.p 4 0]),(12,.i .i64),(15,.i .i64),(16,.b),(17,.i .i64),(53,.ws 0),(54,.i .i64),(55,.i .i64),(94,.ws 1),(95,.i .i64),(96,.i .i64)],q18,62,2,2,2⟩ [] [⟨.ret,q129⟩,⟨.exit 4,q39⟩] (bC n) n
def JQ (n:Nat):LP Tryz.prog Tryz.f111.ntmps:=eP (rB n) [altL (JV n) (ED n) rfl,altL (Le n) (GE n) rfl,altL (OT n) (H5 n) rfl] 1017 (sb (sb (sb (acM [] [3,17,20,23,30] Tryz.f111) 0).body 1).body 1017) false q37 [⟨.nrm,q37⟩,⟨.ret,q128⟩] (jV n)
def F4 (n:Nat):LP Tryz.prog Tryz.f111.ntmps:=eP (rB n) [altL (JV n) (ED n) rfl,altL (Le n) (GE n) rfl,altL (OT n) (H5 n) rfl] 1017 (sb (sb (sb (acM [] [3,17,20,23,30] Tryz.f111) 0).body 1).body 1017) false q39 [⟨.nrm,q39⟩,⟨.ret,q129⟩] (gJ n)
def OP (n:Nat):LP Tryz.prog Tryz.f111.ntmps:=bZ (rB n) [altL (JQ n) (F4 n) rfl] 1 (sb (sb (acM [] [3,17,20,23,30] Tryz.f111) 0).body 1) false q37 [] [⟨.ret,q128⟩,⟨.exit 2,⟨[(3,.p 2 0),(4,.p 3 0),(5,.p 4 0),(6,.p 5 0),(8,.i .i64),(9,.ws 62),(10,.ws 63),(11,.fn 173 [.p 4 0]),(12,.i .i64)],q15,64,2,2,2⟩⟩] (kQ n) n
def KA (n:Nat):LP Tryz.prog Tryz.f111.ntmps:=bZ (rB n) [altL (JQ n) (F4 n) rfl] 1 (sb (sb (acM [] [3,17,20,23,30] Tryz.f111) 0).body 1) false q39 [] [⟨.ret,q129⟩,⟨.exit 2,⟨[(3,.p 2 0),(4,.p 3 0),(5,.p 4 0),(6,.p 5 0),(8,.i .i64),(9,.ws 0),(10,.ws 1),(11,.fn 173 [.p 4 0]),(12,.i .i64)],q18,62,2,2,2⟩⟩] (bU n) n
def SD (n:Nat):LP Tryz.prog Tryz.f111.ntmps:=bZ (rB n) [altL (OP n) (KA n) rfl] 0 (sb (acM [] [3,17,20,23,30] Tryz.f111) 0) false ⟨[(3,.p 2 0),(4,.p 3 0),(5,.p 4 0),(6,.p 5 0),(8,.i .i64),(9,.ws 62),(10,.ws 63),(11,.fn 173 [.p 4 0]),(12,.i .i64),(13,.b)],q15,64,2,2,2⟩ [] [⟨.ret,q128⟩,⟨.exit 0,⟨[(6,.p 5 0)],q49,64,2,2,2⟩⟩] (lj n) n
def Q1 (n:Nat):LP Tryz.prog Tryz.f111.ntmps:=bZ (rB n) [altL (OP n) (KA n) rfl] 0 (sb (acM [] [3,17,20,23,30] Tryz.f111) 0) false ⟨[(3,.p 2 0),(4,.p 3 0),(5,.p 4 0),(6,.p 5 0),(8,.i .i64),(9,.ws 0),(10,.ws 1),(11,.fn 173 [.p 4 0]),(12,.i .i64),(13,.b)],q18,62,2,2,2⟩ [] [⟨.ret,q129⟩,⟨.exit 0,⟨[(6,.p 5 0)],q49,62,2,2,2⟩⟩] (cH n) n
def c111 (n:Nat):FF Tryz.prog 111 [.ag q38,.ag [.i .i64,.i .i64,.i .i64],.b] q112 2 2 [⟨.tp [.ag [.i .i64,.i .i64,.i .i64],.b],[],[],false⟩]:=funC Tryz.func111 Tryz.call111 (rB n) [SC n,altL (SD n) (Q1 n) rfl] [] [3,17,20,23,30] [0,1] (hZ n)
def c60 (n:Nat):PF Tryz.prog 60 q89 (.i .i64):=aH Tryz.func60 Tryz.call60 [(c55 n).e,(c110 n).e,(c111 n).e] [] [] [] (bj n)
def c195 (n:Nat):FF Tryz.prog 195 [.p 0 0] q88 0 1 [⟨.it 197 (.ag [.i .i64,.i .i64]),q55,[],true⟩,⟨.tp [.ag q20,.i .i64],q55,[],false⟩]:=funC Tryz.func195 Tryz.call195 [(c250 n).e,(c60 n).e,(c193 n).e] [] [] [] [0] (gy n)
def UE (n:Nat):List (FE Tryz.prog):=[(c131 n).e,(c190 n).e,(c194 n).e,(c193 n).e]
def TA (n:Nat):LP Tryz.prog Tryz.f133.ntmps:=bZ (UE n) [] 0 (sb (acM [] [] Tryz.f133) 0) false ⟨[(0,.p 0 0),(1,.s),(4,.i .i64),(5,.s)],q55,1,1,0,1⟩ [] [⟨.exit 0,⟨[(0,.p 0 0),(4,.i .i64)],q55,1,1,0,1⟩⟩] (dE n) n
def c133 (n:Nat):FF Tryz.prog 133 [.p 0 0,.s] q88 0 1 [⟨.tp [],q55,[],false⟩,⟨.it 197 (.ag [.i .i64,.i .i64]),q55,[],true⟩]:=funC Tryz.func133 Tryz.call133 (UE n) [TA n] [] [] [0] (bM n)
def c197 (n:Nat):FF Tryz.prog 197 [.ws 0] q83 1 1 [⟨.rs 21 0 0 .q (some .q),[],[],false⟩]:=funC Tryz.func197 Tryz.call197 [] [] [] [] [0] (bv n)
def c160 (n:Nat):FF Tryz.prog 160 [.ag q29] q83 1 1 [⟨.b,[],[],false⟩]:=funC Tryz.func160 Tryz.call160 [] [] [] [] [0] (nK n)
def c53 (n:Nat):PF Tryz.prog 53 q89 (.b):=aH Tryz.func53 Tryz.call53 [(c97 n).e] [] [] [] (dC n)
def c61 (n:Nat):PF Tryz.prog 61 q89 (.b):=aH Tryz.func61 Tryz.call61 [(c53 n).e] [] [] [] (kM n)
def c199 (n:Nat):PF Tryz.prog 199 [.ag q45] (.i .i64):=aH Tryz.func199 Tryz.call199 [(c60 n).e,(c61 n).e] [] [] [] (gm n)
def c64 (n:Nat):FF Tryz.prog 64 [] [] 0 0 [⟨.mp 0,[(0,.mp .u8 [(0,116),(1,118),(2,122),(3,125)])],[0],false⟩]:=funC Tryz.func64 Tryz.call64 [] [] [] [] [] (il n)
def c65 (n:Nat):PF Tryz.prog 65 q89 (.i .u8):=aH Tryz.func65 Tryz.call65 [(c51 n).e] [] [] [] (aY n)
def c116 (n:Nat):FF Tryz.prog 116 [.i .i64,.ws 0] q97 1 1 [⟨.ag q66,[],[],false⟩]:=funC Tryz.func116 Tryz.call116 [(c117 n).e] [] [] [] [0] (fD n)
def c120 (n:Nat):PF Tryz.prog 120 [.i .i64] (.tp [.i .i64,.i .i64]):=aH Tryz.func120 Tryz.call120 [(c184 n).e,(c185 n).e] [] [] [] (tD n)
def c186 (n:Nat):PF Tryz.prog 186 [.i .i64] (.ag [.i .i8,.i .i64]):=aH Tryz.func186 Tryz.call186 [] [] [] [] (Dz n)
def c121 (n:Nat):PF Tryz.prog 121 [.i .i64,.i .i64] (.ag q66):=aH Tryz.func121 Tryz.call121 [(c186 n).e] [] [] [] (qW n)
def c118 (n:Nat):FF Tryz.prog 118 [.i .i64,.ws 0] q97 1 1 [⟨.ag q66,[],[],false⟩]:=funC Tryz.func118 Tryz.call118 [(c119 n).e,(c120 n).e,(c121 n).e] [] [] [] [0] (fM n)
def c122 (n:Nat):FF Tryz.prog 122 [.i .i64,.ws 0] q97 1 1 [⟨.ag q66,[],[],false⟩]:=funC Tryz.func122 Tryz.call122 [(c123 n).e,(c124 n).e,(c121 n).e] [] [] [] [0] (fO n)
def c189 (n:Nat):PF Tryz.prog 189 [.ag [.i .i64,.i .i64,.i .i64]] (.i .i64):=aH Tryz.func189 Tryz.call189 [(c204 n).e] [] [] [] (qx n)
def c126 (n:Nat):PF Tryz.prog 126 [.ag [.i .i64,.i .i64,.i .i64]] (.tp [.i .i64,.i .i64]):=aH Tryz.func126 Tryz.call126 [(c189 n).e,(c123 n).e] [] [] [] (qZ n)
def c125 (n:Nat):FF Tryz.prog 125 [.i .i64,.ws 0] q97 1 1 [⟨.ag q66,[],[],false⟩]:=funC Tryz.func125 Tryz.call125 [(c126 n).e,(c121 n).e] [] [] [] [0] (fL n)
def c23 (n:Nat):PF Tryz.prog 23 q89 (.tp [.ag q66,.i .i64]):=aH Tryz.func23 Tryz.call23 [(c60 n).e,(c61 n).e,(c62 n).e,(c63 n),(c64 n).e,(c65 n).e,(c116 n).e,(c118 n).e,(c122 n).e,(c125 n).e] [] [] [] (fK n)
def c136 (n:Nat):PF Tryz.prog 136 [.i .i8] (.b):=aH Tryz.func136 Tryz.call136 [] [] [] [] (nE n)
def c69 (n:Nat):PF Tryz.prog 69 [.i .i8,.i .i8] (.i .i64):=aH Tryz.func69 Tryz.call69 [(c136 n).e] [] [] [] (lq n)
def c137 (n:Nat):PF Tryz.prog 137 [.i .i64] (.b):=aH Tryz.func137 Tryz.call137 [] [] [] [] (jF n)
def c70 (n:Nat):PF Tryz.prog 70 [.i .i64,.i .i64] (.i .i64):=aH Tryz.func70 Tryz.call70 [(c137 n).e] [] [] [] (iz n)
def VC (n:Nat):LP Tryz.prog Tryz.f68.ntmps:=bZ [] [] 0 (sb (acM [] [] Tryz.f68) 0) false ⟨[(3,.i .i64),(6,.ws 0),(7,.i .i64),(8,.i .i64)],q80,1,1,1,1⟩ [] [⟨.ret,⟨[(2,.i .i64)],[],1,1,1,1⟩⟩,⟨.exit 0,⟨[(3,.i .i64)],[],1,1,1,1⟩⟩] (sO n) n
def c68 (n:Nat):FF Tryz.prog 68 [.ws 0] q97 1 1 [⟨.i .i64,[],[],false⟩]:=funC Tryz.func68 Tryz.call68 [] [VC n] [] [] [0] (nZ n)
def c25 (n:Nat):PF Tryz.prog 25 [.ag [.i .i8,.i .i64],.ag [.i .i8,.i .i64]] (.i .i64):=aH Tryz.func25 Tryz.call25 [(c69 n).e,(c70 n).e,(c68 n).e] [] [] [] (js n)
def c161 (n:Nat):PF Tryz.prog 161 [.ag q45,.ag q45] (.i .i64):=aH Tryz.func161 Tryz.call161 [(c199 n).e,(c23 n).e,(c25 n).e] [] [0] [] (gK n)
def c264 (n:Nat):FF Tryz.prog 264 [.p 0 0] [.cells q19] 1 1 [⟨.b,[],[],false⟩]:=funC Tryz.func264 Tryz.call264 [] [] [] [] [0] (qs n)
def c268 (n:Nat):PF Tryz.prog 268 [.ag q33] (.b):=aH Tryz.func268 Tryz.call268 [(c53 n).e] [] [] [] (m7 n)
def c269 (n:Nat):PF Tryz.prog 269 [.ag q33] (.b):=aH Tryz.func269 Tryz.call269 [(c60 n).e,(c268 n).e,(c65 n).e] [] [] [] (ks n)
def c266 (n:Nat):PF Tryz.prog 266 [.ag q33,.ag q33] (.b):=aH Tryz.func266 Tryz.call266 [(c269 n).e,(c65 n).e,(c23 n).e,(c25 n).e] [] [] [] (lZ n)
def c265 (n:Nat):FF Tryz.prog 265 [.p 0 0] [.cells q19] 1 1 [⟨.b,[],[],false⟩]:=funC Tryz.func265 Tryz.call265 [(c266 n).e] [] [] [] [0] (qu n)
def c267 (n:Nat):FF Tryz.prog 267 q115 [.cells [.i .u8],.cells q19] 2 2 [⟨.b,[],[],false⟩]:=funC Tryz.func267 Tryz.call267 [(c268 n).e] [] [] [] [0,1] (qi n)
def c216 (n:Nat):FF Tryz.prog 216 [.sl 0 0 3 (some (.k 3))] [.cells [.i .i64,.fn 264 [.p 1 0],.i .i64,.fn 265 [.p 1 0],.i .i64,.fn 267 [.p 2 0,.p 1 0]],.cells q19,.cells [.i .u8]] 3 3 [⟨.i .i64,[],[],false⟩]:=funC Tryz.func216 Tryz.call216 [(c264 n).e,(c265 n).e,(c267 n).e] [] [0] [] [0,1,2] (dQ n)
def c217 (n:Nat):PF Tryz.prog 217 [.ag q19,.i .u8] (.i .i64):=aH Tryz.func217 Tryz.call217 [(c60 n).e,(c216 n).e] [] [] [] (eY n)
def c218 (n:Nat):FF Tryz.prog 218 q115 [.cells q19,.cells q58,.rows q11] 3 3 [⟨.b,[],[],false⟩]:=funC Tryz.func218 Tryz.call218 [(c217 n).e] [] [] [] [0,1,2] (qz n)
def c220 (n:Nat):PF Tryz.prog 220 [.ag q19] (.b):=aH Tryz.func220 Tryz.call220 [(c269 n).e] [] [] [] (mH n)
def c219 (n:Nat):FF Tryz.prog 219 [.p 0 0,.p 1 0,.p 2 0] [.cells [.i .u8,.bd,.b,.s,.i .i64,.i .i64,.s,.s,.i .u8,.i .u8,.i .u8,.i .u8,.bd,.b,.s,.i .i64,.i .i64,.s,.s,.i .u8,.i .u8,.i .u8,.i .u8,.bd,.b,.s,.i .i64,.i .i64,.s,.s,.i .u8,.i .u8,.i .u8,.rs 21 3 0 .q (some .q),.b,.b],.cells [.i .i64],.cells q19,.rows q11] 4 4 [⟨.b,[],[],false⟩]:=funC Tryz.func219 Tryz.call219 [(c220 n).e] [] [] [] [0,1,2,3] (qG n)
def c221 (n:Nat):FF Tryz.prog 221 [.p 0 0,.p 1 0,.p 2 0,.p 3 0] [.cells [.i .u8,.bd,.b,.s,.i .i64,.i .i64,.s,.s,.i .u8,.i .u8,.i .u8,.i .u8,.bd,.b,.s,.i .i64,.i .i64,.s,.s,.i .u8,.i .u8,.i .u8,.i .u8,.bd,.b,.s,.i .i64,.i .i64,.s,.s,.i .u8,.i .u8,.i .u8,.rs 21 4 0 .q (some .q),.b,.b],.cells [.i .i64],.cells [.i .i64],.cells q19,.rows q11] 5 5 [⟨.b,[],[],false⟩]:=funC Tryz.func221 Tryz.call221 [(c220 n).e] [] [] [] [0,1,2,3,4] (qL n)
def c222 (n:Nat):FF Tryz.prog 222 q115 [.cells q58,.cells [.i .i64],.rows q11] 3 3 [⟨.b,[],[],false⟩]:=funC Tryz.func222 Tryz.call222 [] [] [] [] [0,1,2] (qO n)
def Td (n:Nat):FF Tryz.prog 216 [.sl 0 0 4 (some (.k 4))] [.cells q71,.cells q19,.cells [.i .u8,.bd,.b,.s,.i .i64,.i .i64,.s,.s,.i .u8,.i .u8,.i .u8,.i .u8,.bd,.b,.s,.i .i64,.i .i64,.s,.s,.i .u8,.i .u8,.i .u8,.i .u8,.bd,.b,.s,.i .i64,.i .i64,.s,.s,.i .u8,.i .u8,.i .u8,.rs 21 5 0 .q (some .q),.b,.b],.cells [.i .i64],.cells [.i .i64],.rows q11] 6 6 [⟨.i .i64,[],[],false⟩]:=funC Tryz.func216 Tryz.call216 [(c218 n).e,(c219 n).e,(c221 n).e,(c222 n).e] [] [0] [] [0,1,2,3,4,5] (ll n)
def RX (n:Nat):List (FE Tryz.prog):=[(c217 n).e,(Td n).e]
def Rq (n:Nat):LP Tryz.prog Tryz.f162.ntmps:=bZ (RX n) [] 0 (sb (acM [] [] Tryz.f162) 0) true ⟨[(1,.p 1 0),(4,.p 2 0),(13,.rs 21 0 0 .q (some .q)),(14,.i .i64),(15,.i .i64)],[(0,.rows q11),(1,.cells q29),(2,.cells [.i .i64])],3,1,1,1⟩ [] q72 (jf n) n
def c162 (n:Nat):FF Tryz.prog 162 [.ag q29] q83 1 1 [⟨.tp [.i .i64,.i .i64],[],[],false⟩]:=funC Tryz.func162 Tryz.call162 (RX n) [Rq n] [] [] [0] (lU n)
def c94 (n:Nat):FF Tryz.prog 94 [.ag q29] q83 1 1 [⟨.tp [.i .i64,.i .i64],[],[],false⟩]:=funC Tryz.func94 Tryz.call94 [(c160 n).e,(c60 n).e,(c161 n).e,(c162 n).e] [] [] [] [0] (gH n)
def Lh (n:Nat):List (FE Tryz.prog):=[(c191 n).e,(c192 n).e,(c131 n).e,(c194 n).e,(c193 n).e,(c195 n).e,(c196 n).e,(c133 n).e,(c197 n).e,(c94 n).e]
def U2 (n:Nat):LP Tryz.prog Tryz.f129.ntmps:=eP (Lh n) [] 1003 (sb (acM [] [3,16,17] Tryz.f129) 1003) true ⟨[(0,.p 0 0),(2,.p 1 0),(3,.p 2 0),(15,.b)],[(0,.cells q30),(1,.cells q14),(2,.cells [.ik .u8 3,.bk false,.bk false,.sk [],.ik .i64 0,.ik .i64 0,.sk [],.sk [],.ik .u8 0,.ik .u8 0,.ik .u8 0,.ik .u8 0,.bk false,.bk false,.sk [],.ik .i64 0,.ik .i64 0,.sk [],.sk [],.ik .u8 0,.ik .u8 0,.ik .u8 0,.ik .u8 0,.bk false,.bk false,.sk [],.ik .i64 0,.ik .i64 0,.sk [],.sk [],.ik .u8 0,.ik .u8 0,.ik .u8 0,.ws 4,.bk false,.bk false]),(3,.rows q11),(4,.rows q11)],5,1,0,1⟩ [⟨.nrm,⟨[(0,.p 0 0),(2,.p 1 0),(3,.p 2 0)],[(0,.cells q30),(1,.cells q14),(2,.cells [.i .u8,.bk false,.bk false,.sk [],.ik .i64 0,.ik .i64 0,.sk [],.sk [],.ik .u8 0,.ik .u8 0,.ik .u8 0,.ik .u8 0,.bk false,.bk false,.sk [],.ik .i64 0,.ik .i64 0,.sk [],.sk [],.ik .u8 0,.ik .u8 0,.ik .u8 0,.ik .u8 0,.bk false,.bk false,.sk [],.ik .i64 0,.ik .i64 0,.sk [],.sk [],.ik .u8 0,.ik .u8 0,.ik .u8 0,.ws 4,.bk false,.bk false]),(3,.rows q11),(4,.rows q11)],5,1,0,1⟩⟩] (l9 n)
def Q5 (n:Nat):LP Tryz.prog Tryz.f129.ntmps:=eP (Lh n) [] 1016 (sb (sb (acM [] [3,16,17] Tryz.f129) 0).body 1016) true ⟨q103,q36,7,1,0,1⟩ [⟨.nrm,q91⟩] (kB n)
def P6 (n:Nat):LP Tryz.prog Tryz.f129.ntmps:=eP (Lh n) [] 1017 (sb (sb (acM [] [3,16,17] Tryz.f129) 0).body 1017) true q91 [⟨.pan (.it 197 (.ag [.i .i64,.i .i64])),⟨[],q55,1,1,0,1⟩⟩,⟨.nrm,⟨q103,[(0,.cells q30),(1,.cells q21),(2,.cells q26),(3,.rows [.i .i64]),(4,.cells q19),(5,.rows q11),(6,.rows q11)],7,1,0,1⟩⟩] (kD n)
def SL (n:Nat):LP Tryz.prog Tryz.f129.ntmps:=bZ (Lh n) [Q5 n,P6 n] 0 (sb (acM [] [3,16,17] Tryz.f129) 0) true ⟨q124,[(0,.cells q30),(1,.cells q22),(2,.cells q47),(3,.rows [.i .i64]),(4,.rows q11),(5,.rows q11)],6,1,0,1⟩ [.nilT 6 1000 [.i .i64]] [⟨.pan (.it 197 (.ag [.i .i64,.i .i64])),⟨[],q55,1,1,0,1⟩⟩,⟨.exit 0,⟨q124,[(0,.cells q30),(1,.cells q64),(2,.cells q43),(3,.rows [.i .i64]),(4,.rows q11),(5,.rows q11)],6,1,0,1⟩⟩] (eJ n) n
def c129 (n:Nat):FF Tryz.prog 129 [.p 0 0] q88 0 1 [⟨.it 197 (.ag [.i .i64,.i .i64]),q55,[],true⟩,⟨.ag [.i .u8,.bd,.b,.s,.i .i64,.i .i64,.s,.s,.i .u8,.i .u8,.i .u8,.i .u8,.bd,.b,.s,.i .i64,.i .i64,.s,.s,.i .u8,.i .u8,.i .u8,.i .u8,.bd,.b,.s,.i .i64,.i .i64,.s,.s,.i .u8,.i .u8,.i .u8,.rs 21 1 0 .q (some .q),.b,.b],[(0,.cells q30),(1,.rows q11)],[1],false⟩]:=funC Tryz.func129 Tryz.call129 (Lh n) [U2 n,SL n] [] [3,16,17] [0] (mj n)
def c130 (n:Nat):FF Tryz.prog 130 [.p 2 0,.i .i64] [.cells q30,.rows q11,.cells q56] 2 3 [⟨.tp [],[(2,.cells q56)],[],false⟩]:=funC Tryz.func130 Tryz.call130 [] [] [] [] [2,0,1] (fg n)
def Oi (n:Nat):FF Tryz.prog 130 [.p 2 0,.i .i64] [.cells q30,.rows q11,.cells q59] 2 3 [⟨.tp [],[(2,.cells q59)],[],false⟩]:=funC Tryz.func130 Tryz.call130 [] [] [] [] [2,0,1] (cA n)
def IX (_n:Nat):Ent:=Oo 252
theorem HG (n:Nat):fp Tryz.prog (IX n):=I1 Tryz.call252 λs c w h1 h2 h3=>Tryz.strings_TrimRight_laid s c w h1 h2 h3
def c252 (n:Nat):FE Tryz.prog:=libF (HG n)
def U8 (n:Nat):PF Tryz.prog 295 [.s,.sk [45]] (.b):=aH Tryz.func295 Tryz.call295 [] [] [] [] (eH n)
def c296 (n:Nat):PF Tryz.prog 296 [.s,.sk [45]] (.s):=aH Tryz.func296 Tryz.call296 [(U8 n).e] [] [] [] (fm n)
def c253 (n:Nat):PF Tryz.prog 253 [.s,.sk [45]] (.s):=aH Tryz.func253 Tryz.call253 [(c296 n).e] [] [] [] (ia n)
end
end Go.Sh
