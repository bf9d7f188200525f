/- Each function of the program computes its plain function: the certificates.
   Conditions: none. Printed by the bench tool gen.py. -/
import Derived.Test.YtfiponokimbeeaaGreatDoorAbsPat
import Derived.Test.YtfiponokimbeeaaGreatDoorHGa
import Derived.Test.YtfiponokimbeeaaGreatDoorHGb
import Derived.Test.YtfiponokimbeeaaGreatDoorHGe
set_option linter.unusedVariables false
set_option linter.unusedSimpArgs false
set_option maxRecDepth 100000
set_option maxHeartbeats 4000000
namespace Go.Sh
open Go.Abs Go.Proofs
noncomputable section
abbrev q30:List PV:=[.s,.i .i64]
abbrev q38:List PV:=[.b,.b,.s,.i .i64,.i .i64]
abbrev q125:List PV:=[.ag q38]
abbrev q21:List PV:=[.b,.b,.s,.i .i64,.i .i64,.s,.s,.i .u8,.i .u8,.i .u8]
abbrev q106:PSt:=⟨[(2,.i .i64)],[],1,0,0,0⟩
abbrev q88:List PV:=[.ag q21]
abbrev q130:PSt:=⟨[(0,.s),(1,.i .i64),(5,.i .i64)],[],0,0,0,0⟩
abbrev q93:List (Nat×PV):=[(4,.i .i64)]
abbrev q120:PSt:=⟨q93,[],0,0,0,0⟩
abbrev q107:PSt:=⟨[],[],0,0,0,0⟩
abbrev q122:List PX:=[⟨.ret,⟨q93,[],1,0,0,0⟩⟩,⟨.exit 0,⟨[],[],1,0,0,0⟩⟩]
abbrev q111:List PV:=[.ai .u8 3,.i .i64]
abbrev q112:List (Nat×PB):=[(0,.cells q38)]
abbrev q81:List (Nat×PB):=[(0,.rows [.i .i64])]
abbrev q75:List (Nat×PB):=[(0,.cells q21),(1,.rows [.i .i64]),(2,.rows [.i .i64,.i .i64,.i .i64])]
abbrev q108:PSt:=⟨[(1,.i .i64),(2,.p 0 0),(5,.ws 2),(6,.ws 1),(7,.i .i64)],q75,3,0,0,0⟩
abbrev q42:List PV:=[.i .u8,.b,.b,.s,.i .i64,.i .i64,.s,.s,.i .u8,.i .u8,.i .u8]
abbrev q79:PSt:=⟨[(0,.i .i64),(4,.i .i64),(5,.b)],[],0,0,0,0⟩
abbrev q80:PSt:=⟨[(0,.i .i64),(4,.i .i64),(9,.b)],[],0,0,0,0⟩
abbrev q77:PSt:=⟨[(0,.i .i64),(4,.i .i64),(13,.b)],[],0,0,0,0⟩
abbrev q78:PSt:=⟨[(0,.i .i64),(4,.i .i64),(17,.b)],[],0,0,0,0⟩
abbrev q56:PSt:=⟨[(0,.i .i64),(4,.i .i64),(21,.b)],[],0,0,0,0⟩
abbrev q127:PSt:=⟨[(0,.i .i64),(4,.i .i64),(30,.b)],[],0,0,0,0⟩
abbrev q135:List PX:=[⟨.nrm,⟨[(0,.i .i64),(30,.b)],[],0,0,0,0⟩⟩]
abbrev q82:PSt:=⟨[(0,.i .i64),(1,.i .i64),(5,.i .i64),(6,.i .i64)],[],0,0,0,0⟩
abbrev q105:List PX:=[⟨.exit 0,⟨[(5,.i .i64)],[],0,0,0,0⟩⟩]
abbrev q68:List (Nat×PB):=[(0,.ints .u8 3),(1,.ints .u8 3),(2,.ints .u8 3),(3,.ints .u8 3),(4,.ints .u8 3)]
abbrev q20:List PV:=[.bd,.b,.s,.i .i64,.i .i64,.s,.s,.i .u8,.i .u8,.i .u8,.b,.bd,.b,.s,.i .i64,.i .i64,.s,.s,.i .u8,.i .u8,.i .u8]
abbrev q11:List Lf:=[.bo,.bo,.s,.i .i64,.i .i64,.s,.s,.i .u8,.i .u8,.i .u8,.bo,.bo,.bo,.s,.i .i64,.i .i64,.s,.s,.i .u8,.i .u8,.i .u8]
abbrev q12:List PV:=[.i .u8,.bd,.b,.s,.i .i64,.i .i64,.s,.s,.i .u8,.i .u8,.i .u8,.i .u8,.bd,.b,.s,.i .i64,.i .i64,.s,.s,.i .u8,.i .u8,.i .u8,.i .u8,.bd,.b,.s,.i .i64,.i .i64,.s,.s,.i .u8,.i .u8,.i .u8,.ws 0,.b,.b]
abbrev q85:List (Nat×PB):=[(0,.rows q11),(1,.cells q12)]
abbrev q118:List PV:=[.ag q12]
abbrev q72:List PB:=[.rows q11]
abbrev q90:List PB:=[.cells q30]
abbrev q54:List (Nat×PB):=[(0,.cells q30)]
abbrev q123:List PX:=[⟨.ret,⟨q93,[],1,1,1,1⟩⟩,⟨.exit 0,⟨[],[],1,1,1,1⟩⟩]
abbrev q113:List (Nat×PB):=[(1,.cells q30)]
abbrev q117:List PV:=[.p 0 0,.p 1 0]
abbrev q119:List PV:=[.ai .u8 3,.ai .u8 3,.i .i64]
abbrev q100:List PB:=[.cells [.fn 289 [.p 1 0]],.cells [.fn 1000288 [.p 3 0]],.cells q21,.cells q30]
abbrev q97:List (Nat×PB):=[(2,.cells q21),(3,.cells q30)]
abbrev q121:List (Nat×PV):=[(0,.s),(7,.s),(8,.i .i64),(9,.i .i64),(12,.i .i64)]
abbrev q65:List PV:=[.i .i8,.i .i64,.i .i8,.i .i64]
abbrev q37:List PV:=[.b,.b,.s,.i .i64,.i .i64,.s,.s,.i .u8,.i .u8,.i .u8,.ws 0,.ws 1]
abbrev q98:List PB:=[.rows [.i .i64]]
abbrev q76:PSt:=⟨[(0,.s),(1,.i .i64),(2,.b),(8,.i .u8),(9,.i .u8),(10,.p 0 0),(11,.p 1 0),(12,.i .i64)],[(0,.ints .u8 18),(1,.ints .u8 18)],2,0,0,0⟩
abbrev q115:List PB:=[.rows [.i .i64],.rows [.i .i64]]
abbrev q70:List (Nat×PB):=[(0,.rows [.i .i64]),(1,.rows [.i .i64]),(2,.cells q37),(3,.cells [.i .i64,.i .i64,.i .i64]),(4,.cells [.b]),(5,.cells [.ik .i64 0,.ik .i64 0,.ik .i64 0])]
abbrev q15:List (Nat×PB):=[(0,.rows [.i .i64]),(1,.rows [.i .i64]),(2,.cells q37),(3,.cells [.i .i64,.i .i64,.i .i64]),(4,.cells [.b]),(5,.cells [.i .i64,.i .i64,.i .i64]),(62,.rows [.i .i64]),(63,.rows [.i .i64])]
abbrev q18:List (Nat×PB):=[(0,.rows [.i .i64]),(1,.rows [.i .i64]),(2,.cells q37),(3,.cells [.i .i64,.i .i64,.i .i64]),(4,.cells [.b]),(5,.cells [.i .i64,.i .i64,.i .i64])]
abbrev q60:PSt:=⟨[(3,.p 2 0),(4,.p 3 0),(5,.p 4 0),(6,.p 5 0),(8,.i .i64),(9,.ws 62),(10,.ws 63),(11,.fn 173 [.p 4 0]),(12,.i .i64),(15,.i .i64),(16,.b),(17,.i .i64),(53,.ws 62),(54,.i .i64),(55,.i .i64)],q15,64,2,2,2⟩
abbrev q61:PSt:=⟨[(3,.p 2 0),(4,.p 3 0),(5,.p 4 0),(6,.p 5 0),(8,.i .i64),(9,.ws 0),(10,.ws 1),(11,.fn 173 [.p 4 0]),(12,.i .i64),(15,.i .i64),(16,.b),(17,.i .i64),(53,.ws 0),(54,.i .i64),(55,.i .i64)],q18,62,2,2,2⟩
abbrev q84:List (Nat×PV):=[(6,.p 5 0),(7,.b)]
abbrev q49:List (Nat×PB):=[(5,.cells [.i .i64,.i .i64,.i .i64])]
abbrev q128:PSt:=⟨q84,q49,64,2,2,2⟩
abbrev q36:PSt:=⟨[(3,.p 2 0),(4,.p 3 0),(5,.p 4 0),(6,.p 5 0),(8,.i .i64),(9,.ws 62),(10,.ws 63),(11,.fn 173 [.p 4 0]),(12,.i .i64),(53,.ws 62),(54,.i .i64),(55,.i .i64)],q15,64,2,2,2⟩
abbrev q129:PSt:=⟨q84,q49,62,2,2,2⟩
abbrev q39:PSt:=⟨[(3,.p 2 0),(4,.p 3 0),(5,.p 4 0),(6,.p 5 0),(8,.i .i64),(9,.ws 0),(10,.ws 1),(11,.fn 173 [.p 4 0]),(12,.i .i64),(53,.ws 0),(54,.i .i64),(55,.i .i64)],q18,62,2,2,2⟩
abbrev q19:List PV:=[.i .u8,.bd,.b,.s,.i .i64,.i .i64,.s,.s,.i .u8,.i .u8,.i .u8,.i .u8,.bd,.b,.s,.i .i64,.i .i64,.s,.s,.i .u8,.i .u8,.i .u8,.i .u8,.bd,.b,.s,.i .i64,.i .i64,.s,.s,.i .u8,.i .u8,.i .u8,.rs 21 0 0 .q (some .q),.b,.b]
abbrev q33:List PV:=[.bd,.b,.s,.i .i64,.i .i64,.s,.s,.i .u8,.i .u8,.i .u8]
abbrev q57:List PV:=[.i .u8,.bd,.b,.s,.i .i64,.i .i64,.s,.s,.i .u8,.i .u8,.i .u8,.i .u8,.bd,.b,.s,.i .i64,.i .i64,.s,.s,.i .u8,.i .u8,.i .u8,.i .u8,.bd,.b,.s,.i .i64,.i .i64,.s,.s,.i .u8,.i .u8,.i .u8,.rs 21 2 0 .q (some .q),.b,.b]
abbrev q71:List PV:=[.i .i64,.fn 218 [.p 1 0,.p 2 0],.i .i64,.fn 219 [.p 2 0,.p 3 0,.p 1 0],.i .i64,.fn 221 [.p 2 0,.p 3 0,.p 4 0,.p 1 0],.i .i64,.fn 222 [.p 2 0,.p 4 0]]
abbrev q73:List PX:=[⟨.ret,⟨[(2,.i .i64),(3,.i .i64)],[],1,1,1,1⟩⟩,⟨.exit 0,⟨[],[],1,1,1,1⟩⟩]
abbrev q14:List PV:=[.ik .u8 0,.bk false,.bk false,.sk [],.ik .i64 0,.ik .i64 0,.sk [],.sk [],.ik .u8 0,.ik .u8 0,.ik .u8 0,.ik .u8 0,.bk false,.bk false,.sk [],.ik .i64 0,.ik .i64 0,.sk [],.sk [],.ik .u8 0,.ik .u8 0,.ik .u8 0,.ik .u8 0,.bk false,.bk false,.sk [],.ik .i64 0,.ik .i64 0,.sk [],.sk [],.ik .u8 0,.ik .u8 0,.ik .u8 0,.ws 3,.bk false,.bk false]
abbrev q104:List (Nat×PV):=[(0,.p 0 0),(2,.p 1 0),(3,.p 2 0),(5,.s),(6,.ws 3),(7,.p 4 0),(9,.i .i64)]
abbrev q22:List PV:=[.ik .u8 0,.bk false,.bk false,.sk [],.ik .i64 0,.ik .i64 0,.sk [],.sk [],.ik .u8 0,.ik .u8 0,.ik .u8 0,.ik .u8 0,.bk false,.bk false,.sk [],.ik .i64 0,.ik .i64 0,.sk [],.sk [],.ik .u8 0,.ik .u8 0,.ik .u8 0,.ik .u8 0,.bk false,.bk false,.sk [],.ik .i64 0,.ik .i64 0,.sk [],.sk [],.ik .u8 0,.ik .u8 0,.ik .u8 0,.ws 5,.bk false,.bk false]
abbrev q27:List PV:=[.i .u8,.bk false,.bk false,.sk [],.ik .i64 0,.ik .i64 0,.sk [],.sk [],.ik .u8 0,.ik .u8 0,.ik .u8 0,.ik .u8 0,.bk false,.bk false,.sk [],.ik .i64 0,.ik .i64 0,.sk [],.sk [],.ik .u8 0,.ik .u8 0,.ik .u8 0,.ik .u8 0,.bk false,.bk false,.sk [],.ik .i64 0,.ik .i64 0,.sk [],.sk [],.ik .u8 0,.ik .u8 0,.ik .u8 0,.ws 6,.b,.bk false]
abbrev q69:List PV:=[.bd,.b,.s,.i .i64,.i .i64,.s,.s,.i .u8,.i .u8,.i .u8,.bk false,.bk false,.bk false,.sk [],.ik .i64 0,.ik .i64 0,.sk [],.sk [],.ik .u8 0,.ik .u8 0,.ik .u8 0]
abbrev q35:List (Nat×PB):=[(0,.cells q30),(1,.cells q22),(2,.cells q27),(3,.rows [.i .i64]),(4,.cells q69),(5,.rows q11),(6,.rows q11)]
abbrev q92:PSt:=⟨[(0,.p 0 0),(2,.p 1 0),(3,.p 2 0),(5,.s),(6,.ws 3),(7,.p 4 0),(9,.i .i64),(49,.b)],q35,7,1,0,1⟩
abbrev q124:List (Nat×PV):=[(0,.p 0 0),(2,.p 1 0),(3,.p 2 0),(5,.s),(6,.ws 3)]
abbrev q23:List PV:=[.ik .u8 0,.bk false,.bk false,.sk [],.ik .i64 0,.ik .i64 0,.sk [],.sk [],.ik .u8 0,.ik .u8 0,.ik .u8 0,.ik .u8 0,.bk false,.bk false,.sk [],.ik .i64 0,.ik .i64 0,.sk [],.sk [],.ik .u8 0,.ik .u8 0,.ik .u8 0,.ik .u8 0,.bk false,.bk false,.sk [],.ik .i64 0,.ik .i64 0,.sk [],.sk [],.ik .u8 0,.ik .u8 0,.ik .u8 0,.ws 4,.bk false,.bk false]
abbrev q47:List PV:=[.i .u8,.bk false,.bk false,.sk [],.ik .i64 0,.ik .i64 0,.sk [],.sk [],.ik .u8 0,.ik .u8 0,.ik .u8 0,.ik .u8 0,.bk false,.bk false,.sk [],.ik .i64 0,.ik .i64 0,.sk [],.sk [],.ik .u8 0,.ik .u8 0,.ik .u8 0,.ik .u8 0,.bk false,.bk false,.sk [],.ik .i64 0,.ik .i64 0,.sk [],.sk [],.ik .u8 0,.ik .u8 0,.ik .u8 0,.ws 5,.b,.bk false]
abbrev q63:List PV:=[.i .u8,.bd,.b,.s,.i .i64,.i .i64,.s,.s,.i .u8,.i .u8,.i .u8,.i .u8,.bd,.b,.s,.i .i64,.i .i64,.s,.s,.i .u8,.i .u8,.i .u8,.i .u8,.bd,.b,.s,.i .i64,.i .i64,.s,.s,.i .u8,.i .u8,.i .u8,.ws 4,.b,.b]
abbrev q43:List PV:=[.i .u8,.bd,.b,.s,.i .i64,.i .i64,.s,.s,.i .u8,.i .u8,.i .u8,.i .u8,.bd,.b,.s,.i .i64,.i .i64,.s,.s,.i .u8,.i .u8,.i .u8,.i .u8,.bd,.b,.s,.i .i64,.i .i64,.s,.s,.i .u8,.i .u8,.i .u8,.ws 5,.b,.b]
abbrev q55:List PV:=[.p 0 0,.i .u8,.bd,.b,.s,.i .i64,.i .i64,.s,.s,.i .u8,.i .u8,.i .u8,.i .u8,.bd,.b,.s,.i .i64,.i .i64,.s,.s,.i .u8,.i .u8,.i .u8,.i .u8,.bd,.b,.s,.i .i64,.i .i64,.s,.s,.i .u8,.i .u8,.i .u8,.rs 21 1 0 .q (some .q),.b,.b,.i .i64]
abbrev q58:List PV:=[.p 0 0,.i .u8,.bd,.b,.s,.i .i64,.i .i64,.s,.s,.i .u8,.i .u8,.i .u8,.i .u8,.bd,.b,.s,.i .i64,.i .i64,.s,.s,.i .u8,.i .u8,.i .u8,.i .u8,.bd,.b,.s,.i .i64,.i .i64,.s,.s,.i .u8,.i .u8,.i .u8,.ws 1,.b,.b,.i .i64]
def Ur (n:Nat):LP Tryz.prog Tryz.f207.ntmps:=cq [] [] 0 (sb (acM [] [] Tryz.f207) 0) false ⟨[(0,.s),(1,.i .u8),(2,.i .u8),(7,.i .i64),(8,.i .i64)],[],0,0,0,0⟩ [] [⟨.exit 0,⟨[(7,.i .i64)],[],0,0,0,0⟩⟩] (ia n) n
def c207 (n:Nat):PF Tryz.prog 207 [.s,.i .u8,.i .u8] (.i .i64):=aK Tryz.func207 Tryz.call207 [] [Ur n] [] [] (gq n)
def UF (n:Nat):LP Tryz.prog Tryz.f148.ntmps:=cq [] [] 0 (sb (acM [] [] Tryz.f148) 0) false ⟨[(0,.s),(1,.i .i64),(6,.i .i64),(7,.i .i64)],[],0,0,0,0⟩ [] [⟨.ret,⟨[(4,.i .i64),(5,.i .i64)],[],0,0,0,0⟩⟩,⟨.exit 0,⟨[(6,.i .i64)],[],0,0,0,0⟩⟩] (fh n) n
def c148 (n:Nat):PF Tryz.prog 148 q30 (.tp [.i .i64,.i .i64]):=aK Tryz.func148 Tryz.call148 [] [UF n] [] [] (ak n)
def c146 (n:Nat):PF Tryz.prog 146 q125 (.i .i64):=aK Tryz.func146 Tryz.call146 [(c207 n).e,(c148 n).e] [] [] [] (jZ n)
def c147 (n:Nat):PF Tryz.prog 147 [.i .i64] (.s):=aK Tryz.func147 Tryz.call147 [] [] [] [] (gB n)
def c77E (n:Nat):List (FE Tryz.prog):=[(c147 n).e]
def XR (n:Nat):LP Tryz.prog Tryz.f77.ntmps:=cq (c77E n) [] 0 (sb (acM [] [] Tryz.f77) 0) false ⟨[(1,.p 0 0),(3,.i .i64)],[(0,.cells q21)],1,0,0,0⟩ [] [⟨.ret,q106⟩,⟨.exit 0,⟨[],[],1,0,0,0⟩⟩] (bM n) n
def c77 (n:Nat):PF Tryz.prog 77 q88 (.i .i64):=aK Tryz.func77 Tryz.call77 (c77E n) [XR n] [] [] (aQ n)
def c38 (n:Nat):PF Tryz.prog 38 q88 (.i .i64):=aK Tryz.func38 Tryz.call38 [] [] [] [] (aF n)
def c261 (n:Nat):PF Tryz.prog 261 q125 (.i .i64):=aK Tryz.func261 Tryz.call261 [(c207 n).e] [] [] [] (aE n)
def c210 (n:Nat):PF Tryz.prog 210 q88 (.i .i64):=aK Tryz.func210 Tryz.call210 [(c146 n).e,(c77 n).e,(c261 n).e,(c148 n).e] [] [] [] (ji n)
def c262 (n:Nat):PF Tryz.prog 262 q30 (.i .i64):=aK Tryz.func262 Tryz.call262 [(c147 n).e] [] [] [] (eo n)
def Uh (n:Nat):List (FE Tryz.prog):=[(c262 n).e]
def VF (n:Nat):LP Tryz.prog Tryz.f211.ntmps:=cq (Uh n) [] 0 (sb (acM [] [] Tryz.f211) 0) false q130 [] [⟨.ret,q120⟩,⟨.exit 0,q107⟩] (dK n) n
def c211 (n:Nat):PF Tryz.prog 211 q30 (.i .i64):=aK Tryz.func211 Tryz.call211 (Uh n) [VF n] [] [] (dM n)
def Wc (n:Nat):LP Tryz.prog Tryz.f212.ntmps:=cq [] [] 0 (sb (acM [] [] Tryz.f212) 0) false ⟨[(1,.i .i64),(2,.p 0 0),(5,.i .i64)],[(0,.ints .u8 3)],1,0,0,0⟩ [] q122 (dC n) n
def c212 (n:Nat):PF Tryz.prog 212 q111 (.i .i64):=aK Tryz.func212 Tryz.call212 [] [Wc n] [] [] (bV n)
def c158 (n:Nat):PF Tryz.prog 158 q88 (.i .i64):=aK Tryz.func158 Tryz.call158 [(c210 n).e,(c77 n).e,(c211 n).e,(c38 n).e,(c212 n).e] [] [] [] (kh n)
def Rz (n:Nat):List (FE Tryz.prog):=[(c261 n).e,(c148 n).e]
def Vl (n:Nat):LP Tryz.prog Tryz.f213.ntmps:=cq (Rz n) [] 0 (sb (acM [] [] Tryz.f213) 0) false ⟨[(1,.p 0 0),(4,.s),(5,.s),(6,.i .i64)],q112,1,0,0,0⟩ [] [⟨.exit 0,⟨[(1,.p 0 0),(4,.s),(5,.s)],q112,1,0,0,0⟩⟩] (gh n) n
def U5 (n:Nat):LP Tryz.prog Tryz.f213.ntmps:=cq (Rz n) [] 1 (sb (acM [] [] Tryz.f213) 1) false ⟨[(1,.p 0 0),(4,.s),(5,.s),(9,.i .i64)],q112,1,0,0,0⟩ [] [⟨.exit 2,⟨[(1,.p 0 0),(4,.s),(5,.s)],q112,1,0,0,0⟩⟩] (od n) n
def c213 (n:Nat):PF Tryz.prog 213 q125 (.tp [.i .i64,.i .i64]):=aK Tryz.func213 Tryz.call213 (Rz n) [Vl n,U5 n] [] [] (aN n)
def UC (n:Nat):List (FE Tryz.prog):=[(c261 n).e,(c148 n).e]
def Vp (n:Nat):LP Tryz.prog Tryz.f214.ntmps:=cq (UC n) [] 0 (sb (acM [] [] Tryz.f214) 0) false ⟨[(1,.i .i64),(2,.p 0 0),(5,.i .i64)],q112,1,0,0,0⟩ [] [⟨.ret,⟨q93,[],1,0,0,0⟩⟩,⟨.exit 0,⟨[(1,.i .i64)],[],1,0,0,0⟩⟩] (bO n) n
def c214 (n:Nat):PF Tryz.prog 214 [.ag q38,.i .i64] (.i .i64):=aK Tryz.func214 Tryz.call214 (UC n) [Vp n] [] [] (nl n)
def Wj (n:Nat):List (FE Tryz.prog):=[(c77 n).e,(c262 n).e]
def V2 (n:Nat):LP Tryz.prog Tryz.f263.ntmps:=cq (Wj n) [] 0 (sb (acM [] [] Tryz.f263) 0) false ⟨[(1,.p 0 0),(3,.ws 1),(4,.i .i64)],[(0,.cells q21),(1,.rows [.i .i64])],2,0,0,0⟩ [.nilT 3 1 [.i .i64]] [⟨.exit 0,⟨[(3,.ws 1)],[(1,.rows [.i .i64])],2,0,0,0⟩⟩] (dS n) n
def c263 (n:Nat):FF Tryz.prog 263 q88 [] 0 0 [⟨.ws 0,q81,[0],false⟩]:=funC Tryz.func263 Tryz.call263 (Wj n) [V2 n] [] [] [] (jF n)
def c208 (n:Nat):PF Tryz.prog 208 [.i .i64,.i .i64] (.i .i64):=aK Tryz.func208 Tryz.call208 [] [] [] [] (eC n)
def RY (n:Nat):List (FE Tryz.prog):=[(c263 n).e,(c208 n).e,(c262 n).e]
def VN (n:Nat):LP Tryz.prog Tryz.f215.ntmps:=cq (RY n) [] 1 (sb (sb (acM [] [] Tryz.f215) 0).body 1) false ⟨[(1,.i .i64),(2,.p 0 0),(5,.ws 2),(6,.ws 1),(7,.i .i64),(8,.i .i64)],q75,3,0,0,0⟩ [] [⟨.exit 2,q108⟩] (eS n) n
def VH (n:Nat):LP Tryz.prog Tryz.f215.ntmps:=cq (RY n) [VN n] 0 (sb (acM [] [] Tryz.f215) 0) false q108 [.nilT 5 2 [.i .i64,.i .i64,.i .i64]] [⟨.exit 0,⟨[(5,.ws 2)],[(2,.rows [.i .i64,.i .i64,.i .i64])],3,0,0,0⟩⟩] (eT n) n
def c215 (n:Nat):FF Tryz.prog 215 [.ag q21,.i .i64] [] 0 0 [⟨.ws 0,[(0,.rows [.i .i64,.i .i64,.i .i64])],[0],false⟩]:=funC Tryz.func215 Tryz.call215 (RY n) [VH n] [] [] [] (kU n)
def Xa (n:Nat):List (FE Tryz.prog):=[(c213 n).e,(c214 n).e,(c215 n).e]
def Va (n:Nat):LP Tryz.prog Tryz.f159.ntmps:=cq (Xa n) [] 0 (sb (acM [] [] Tryz.f159) 0) false ⟨[(1,.p 0 0),(4,.i .i64),(5,.i .i64)],[(0,.cells q21)],1,0,0,0⟩ [] [⟨.ret,q106⟩,⟨.exit 0,⟨[],[],1,0,0,0⟩⟩] (ge n) n
def c159 (n:Nat):PF Tryz.prog 159 q88 (.i .i64):=aK Tryz.func159 Tryz.call159 (Xa n) [Va n] [] [] (lh n)
def c91 (n:Nat):PF Tryz.prog 91 q88 (.i .i64):=aK Tryz.func91 Tryz.call91 [(c158 n).e,(c159 n).e] [] [] [] (bP n)
def XO (n:Nat):LP Tryz.prog Tryz.f46.ntmps:=cq [] [] 0 (sb (acM [] [] Tryz.f46) 0) false ⟨[(1,.p 0 0),(3,.s),(4,.i .i64)],[(0,.cells q21)],1,0,0,0⟩ [] [⟨.ret,q106⟩,⟨.exit 0,⟨[(1,.p 0 0)],[(0,.cells q21)],1,0,0,0⟩⟩] (ek n) n
def c46 (n:Nat):PF Tryz.prog 46 q88 (.i .i64):=aK Tryz.func46 Tryz.call46 [] [XO n] [] [] (aO n)
def c79 (n:Nat):PF Tryz.prog 79 [.ag q42] (.i .i64):=aK Tryz.func79 Tryz.call79 [(c91 n).e,(c46 n).e] [] [] [] (eW n)
def VT (n:Nat):List (FE Tryz.prog):=[(c208 n).e]
def UM (n:Nat):LP Tryz.prog Tryz.f149.ntmps:=cq (VT n) [] 0 (sb (acM [] [] Tryz.f149) 0) false ⟨[(0,.i .i64),(4,.i .i64),(5,.i .i64)],[],0,0,0,0⟩ [] [⟨.exit 0,q120⟩] (cV n) n
def c149 (n:Nat):PF Tryz.prog 149 [.i .i64] (.i .i64):=aK Tryz.func149 Tryz.call149 (VT n) [UM n] [] [] (cg n)
def Uz (n:Nat):LP Tryz.prog Tryz.f150.ntmps:=fp [] [] 1006 (sb (sb (acM [] [4,6,11,13,18,20,25,27,32,34,36,41,43] Tryz.f150) 1004) 1006) false q79 [⟨.nrm,q79⟩] (mR n)
def W9 (n:Nat):LP Tryz.prog Tryz.f150.ntmps:=fp [] [Uz n] 1004 (sb (acM [] [4,6,11,13,18,20,25,27,32,34,36,41,43] Tryz.f150) 1004) false q79 [⟨.nrm,q79⟩] (mQ n)
def TU (n:Nat):LP Tryz.prog Tryz.f150.ntmps:=fp [] [] 1013 (sb (sb (acM [] [4,6,11,13,18,20,25,27,32,34,36,41,43] Tryz.f150) 1011) 1013) false q80 [⟨.nrm,q80⟩] (me n)
def Rn (n:Nat):LP Tryz.prog Tryz.f150.ntmps:=fp [] [TU n] 1011 (sb (acM [] [4,6,11,13,18,20,25,27,32,34,36,41,43] Tryz.f150) 1011) false q80 [⟨.nrm,q80⟩] (mC n)
def RV (n:Nat):LP Tryz.prog Tryz.f150.ntmps:=fp [] [] 1020 (sb (sb (acM [] [4,6,11,13,18,20,25,27,32,34,36,41,43] Tryz.f150) 1018) 1020) false q77 [⟨.nrm,q77⟩] (mu n)
def Tz (n:Nat):LP Tryz.prog Tryz.f150.ntmps:=fp [] [RV n] 1018 (sb (acM [] [4,6,11,13,18,20,25,27,32,34,36,41,43] Tryz.f150) 1018) false q77 [⟨.nrm,q77⟩] (mj n)
def Tv (n:Nat):LP Tryz.prog Tryz.f150.ntmps:=fp [] [] 1027 (sb (sb (acM [] [4,6,11,13,18,20,25,27,32,34,36,41,43] Tryz.f150) 1025) 1027) false q78 [⟨.nrm,q78⟩] (ma n)
def RB (n:Nat):LP Tryz.prog Tryz.f150.ntmps:=fp [] [Tv n] 1025 (sb (acM [] [4,6,11,13,18,20,25,27,32,34,36,41,43] Tryz.f150) 1025) false q78 [⟨.nrm,q78⟩] (mD n)
def TS (n:Nat):LP Tryz.prog Tryz.f150.ntmps:=fp [] [] 1036 (sb (sb (sb (acM [] [4,6,11,13,18,20,25,27,32,34,36,41,43] Tryz.f150) 1032) 1034) 1036) false q56 [⟨.nrm,q56⟩] (mF n)
def RH (n:Nat):LP Tryz.prog Tryz.f150.ntmps:=fp [] [TS n] 1034 (sb (sb (acM [] [4,6,11,13,18,20,25,27,32,34,36,41,43] Tryz.f150) 1032) 1034) false q56 [⟨.nrm,q56⟩] (mi n)
def SC (n:Nat):LP Tryz.prog Tryz.f150.ntmps:=fp [] [RH n] 1032 (sb (acM [] [4,6,11,13,18,20,25,27,32,34,36,41,43] Tryz.f150) 1032) false q56 [⟨.nrm,q56⟩] (mz n)
def Tt (n:Nat):LP Tryz.prog Tryz.f150.ntmps:=fp [] [] 1043 (sb (sb (acM [] [4,6,11,13,18,20,25,27,32,34,36,41,43] Tryz.f150) 1041) 1043) false q127 q135 (mb n)
def RJ (n:Nat):LP Tryz.prog Tryz.f150.ntmps:=fp [] [Tt n] 1041 (sb (acM [] [4,6,11,13,18,20,25,27,32,34,36,41,43] Tryz.f150) 1041) false q127 q135 (mA n)
def c150 (n:Nat):PF Tryz.prog 150 [.i .i64] (.tp [.i .i64,.i .i64]):=aK Tryz.func150 Tryz.call150 [] [W9 n,Rn n,Tz n,RB n,SC n,RJ n] [] [4,6,11,13,18,20,25,27,32,34,36,41,43] (gS n)
def VA (n:Nat):List (FE Tryz.prog):=[(c149 n).e,(c208 n).e]
def UT (n:Nat):LP Tryz.prog Tryz.f151.ntmps:=cq (VA n) [] 0 (sb (acM [] [] Tryz.f151) 0) false q82 [] q105 (lu n) n
def c151 (n:Nat):PF Tryz.prog 151 [.i .i64,.i .i64] (.i .i64):=aK Tryz.func151 Tryz.call151 (VA n) [UT n] [] [] (nK n)
def Ny (n:Nat):List (FE Tryz.prog):=[(c151 n).e,(c149 n).e,(c208 n).e]
def Ou (n:Nat):LP Tryz.prog Tryz.f151.ntmps:=cq (Ny n) [] 0 (sb (acM [] [] Tryz.f151) 0) false q82 [] q105 (i6 n) n
def VZ (n:Nat):PF Tryz.prog 151 [.i .i64,.i .i64] (.i .i64):=aK Tryz.func151 Tryz.call151 (Ny n) [Ou n] [] [] (kx n)
def Ll (n:Nat):List (FE Tryz.prog):=[(VZ n).e,(c149 n).e,(c208 n).e]
def Qm (n:Nat):LP Tryz.prog Tryz.f151.ntmps:=cq (Ll n) [] 0 (sb (acM [] [] Tryz.f151) 0) false q82 [] q105 (ku n) n
def WO (n:Nat):PF Tryz.prog 151 [.i .i64,.i .i64] (.i .i64):=aK Tryz.func151 Tryz.call151 (Ll n) [Qm n] [] [] (aR n)
def c152 (n:Nat):PF Tryz.prog 152 [.s] (.i .i64):=aK Tryz.func152 Tryz.call152 [] [] [] [] (aX n)
def c80 (n:Nat):PF Tryz.prog 80 q88 (.tp [.i .i64,.i .i64]):=aK Tryz.func80 Tryz.call80 [(c148 n).e,(c77 n).e,(c149 n).e,(c150 n).e,(WO n).e,(c152 n).e] [] [] [] (bj n)
def c32 (n:Nat):PF Tryz.prog 32 [.ag q42,.ag q42] (.i .i64):=aK Tryz.func32 Tryz.call32 [(c79 n).e,(c80 n).e] [] [] [] (eG n)
def XU (n:Nat):LP Tryz.prog Tryz.f82.ntmps:=cq [] [] 0 (sb (acM [] [] Tryz.f82) 0) false ⟨[(1,.i .i64),(2,.p 0 0),(4,.p 1 0),(5,.p 2 0),(6,.p 3 0),(7,.p 4 0),(8,.b),(9,.i .i64)],q68,5,0,0,0⟩ [] [⟨.exit 0,⟨[(1,.i .i64),(2,.p 0 0),(4,.p 1 0),(5,.p 2 0),(6,.p 3 0),(7,.p 4 0),(8,.b)],q68,5,0,0,0⟩⟩] (nu n) n
def Yl (n:Nat):LP Tryz.prog Tryz.f82.ntmps:=cq [] [] 1 (sb (acM [] [] Tryz.f82) 1) false ⟨[(1,.i .i64),(2,.p 0 0),(4,.p 1 0),(5,.p 2 0),(6,.p 3 0),(7,.p 4 0),(10,.i .i64)],q68,5,0,0,0⟩ [] [⟨.exit 2,⟨[(4,.p 1 0),(5,.p 2 0),(6,.p 3 0),(7,.p 4 0)],[(1,.ints .u8 3),(2,.ints .u8 3),(3,.ints .u8 3),(4,.ints .u8 3)],5,0,0,0⟩⟩] (nA n) n
def c82 (n:Nat):PF Tryz.prog 82 q111 (.tp [.ai .u8 3,.ai .u8 3]):=aK Tryz.func82 Tryz.call82 [] [XU n,Yl n] [] [] (kj n)
def c41 (n:Nat):PF Tryz.prog 41 [.i .u8] (.s):=aK Tryz.func41 Tryz.call41 [] [] [] [] (cD n)
def c84 (n:Nat):PF Tryz.prog 84 [.i .i64] (.s):=aK Tryz.func84 Tryz.call84 [] [] [] [] (aG n)
def c39 (n:Nat):PF Tryz.prog 39 q125 (.s):=aK Tryz.func39 Tryz.call39 [(c84 n).e] [] [] [] (kZ n)
def c35 (n:Nat):PF Tryz.prog 35 q88 (.s):=aK Tryz.func35 Tryz.call35 [(c38 n).e,(c82 n).e,(c41 n).e,(c39 n).e] [] [] [] (cE n)
def c36 (n:Nat):PF Tryz.prog 36 [.ag q42] (.s):=aK Tryz.func36 Tryz.call36 [(c35 n).e] [] [] [] (gV n)
def c83 (n:Nat):PF Tryz.prog 83 [.ag q20] (.s):=aK Tryz.func83 Tryz.call83 [(c35 n).e] [] [] [] (g9 n)
def c37E (n:Nat):List (FE Tryz.prog):=[(c83 n).e]
def XE (n:Nat):LP Tryz.prog Tryz.f37.ntmps:=cq (c37E n) [] 0 (sb (acM [] [] Tryz.f37) 0) true ⟨[(1,.p 1 0),(3,.s),(4,.i .i64)],q85,2,1,1,1⟩ [] [⟨.exit 0,⟨[(1,.p 1 0),(3,.s)],q85,2,1,1,1⟩⟩] (bS n) n
def c37 (n:Nat):FF Tryz.prog 37 q118 q72 1 1 [⟨.s,[],[],false⟩]:=funC Tryz.func37 Tryz.call37 (c37E n) [XE n] [] [] [0] (kP n)
def c8 (n:Nat):FF Tryz.prog 8 q118 q72 1 1 [⟨.s,[],[],false⟩]:=funC Tryz.func8 Tryz.call8 [(c35 n).e,(c36 n).e,(c37 n).e] [] [] [] [0] (fE n)
def c190 (n:Nat):FF Tryz.prog 190 [.p 0 0] q90 1 1 [⟨.s,[],[],false⟩]:=funC Tryz.func190 Tryz.call190 [] [] [] [] [0] (cH n)
def c128 (n:Nat):FF Tryz.prog 128 [.p 0 0] q90 1 1 [⟨.tp [.i .u8,.b],[],[],false⟩]:=funC Tryz.func128 Tryz.call128 [(c190 n).e] [] [] [] [0] (bi n)
def c194 (n:Nat):FF Tryz.prog 194 [.p 0 0] q90 1 1 [⟨.i .i64,[],[],false⟩]:=funC Tryz.func194 Tryz.call194 [] [] [] [] [0] (bE n)
def c193 (n:Nat):FF Tryz.prog 193 [.p 0 0,.i .i64,.i .i64] q90 1 1 [⟨.it 197 (.ag [.i .i64,.i .i64]),[],[],true⟩]:=funC Tryz.func193 Tryz.call193 [] [] [] [] [0] (aP n)
def c304 (_n:Nat):FE Tryz.prog:=libF (La Tryz.func304 (by kernel_rfl) (by kernel_rfl) (by kernel_rfl) (by kernel_rfl))
def c270 (n:Nat):PF Tryz.prog 270 [.s,.i .u8] (.i .i64):=aK Tryz.func270 Tryz.call270 [(c304 n)] [] [] [] (db n)
def c249 (n:Nat):PF Tryz.prog 249 [.s,.i .u8] (.i .i64):=aK Tryz.func249 Tryz.call249 [(c270 n).e] [] [] [] (dw n)
def c191 (n:Nat):FF Tryz.prog 191 [.p 0 0,.s] q90 0 1 [⟨.it 197 (.ag [.i .i64,.i .i64]),q54,[],true⟩,⟨.i .u8,q54,[],false⟩]:=funC Tryz.func191 Tryz.call191 [(c128 n).e,(c194 n).e,(c193 n).e,(c249 n).e] [] [] [] [0] (cu n)
def c192 (n:Nat):PF Tryz.prog 192 [.i .u8] (.tp [.s,.s]):=aK Tryz.func192 Tryz.call192 [] [] [] [] (eF n)
def c295 (n:Nat):PF Tryz.prog 295 [.s,.s] (.b):=aK Tryz.func295 Tryz.call295 [] [] [] [] (gu n)
def c251 (n:Nat):PF Tryz.prog 251 [.s,.s] (.b):=aK Tryz.func251 Tryz.call251 [(c295 n).e] [] [] [] (jz n)
def c196 (n:Nat):FF Tryz.prog 196 [.p 0 0,.s] q90 1 1 [⟨.b,[],[],false⟩]:=funC Tryz.func196 Tryz.call196 [(c190 n).e,(c251 n).e] [] [] [] [0] (fD n)
def c131 (n:Nat):FF Tryz.prog 131 [.p 0 0,.s] q90 0 1 [⟨.b,q54,[],false⟩]:=funC Tryz.func131 Tryz.call131 [(c196 n).e] [] [] [] [0] (aB n)
def c71 (n:Nat):PF Tryz.prog 71 [] (.ag [.s,.s,.s,.s]):=aK Tryz.func71 Tryz.call71 [] [] [] [] (sL n)
def Yh (n:Nat):LP Tryz.prog Tryz.f72.ntmps:=cq [] [] 0 (sb (acM [] [] Tryz.f72) 0) false ⟨[(0,.sl 0 0 4 (some (.k 4))),(1,.s),(7,.i .i64),(8,.i .i64)],[(0,.cells [.s,.s,.s,.s])],1,1,1,1⟩ [] q123 (iM n) n
def c72 (n:Nat):FF Tryz.prog 72 [.sl 0 0 4 (some (.k 4)),.s] [.cells [.s,.s,.s,.s]] 1 1 [⟨.i .i64,[],[],false⟩]:=funC Tryz.func72 Tryz.call72 [] [Yh n] [] [] [0] (jG n)
def c26 (n:Nat):PF Tryz.prog 26 [.i .u8] (.tp [.i .u8,.b]):=aK Tryz.func26 Tryz.call26 [(c71 n).e,(c72 n).e] [] [] [] (pG n)
def c287 (n:Nat):FF Tryz.prog 287 [.p 0 0] [.cells [.p 1 0],.cells q30] 1 2 [⟨.it 197 (.ag [.i .i64,.i .i64]),q113,[],true⟩,⟨.i .u8,q113,[],false⟩]:=funC Tryz.func287 Tryz.call287 [(c128 n).e,(c26 n).e,(c191 n).e] [] [] [] [0,1] (cJ n)
def UA (n:Nat):List (FE Tryz.prog):=[(c194 n).e,(c128 n).e,(c249 n).e,(c193 n).e]
def Xq (n:Nat):LP Tryz.prog Tryz.f288.ntmps:=cq (UA n) [] 0 (sb (acM [] [] Tryz.f288) 0) false ⟨[(0,.p 0 0),(1,.s),(2,.i .i64),(3,.i .i64),(9,.i .i64),(10,.i .u8),(11,.b)],q54,1,1,0,1⟩ [] [⟨.exit 0,⟨[(0,.p 0 0),(2,.i .i64),(9,.i .i64)],q54,1,1,0,1⟩⟩] (cX n) n
def c288 (n:Nat):FF Tryz.prog 288 [.p 0 0,.s,.i .i64,.i .i64] q90 0 1 [⟨.it 197 (.ag [.i .i64,.i .i64]),q54,[],true⟩,⟨.s,q54,[],false⟩]:=funC Tryz.func288 Tryz.call288 (UA n) [Xq n] [] [] [0] (bY n)
noncomputable def N9 (_n:Nat):Ent:=RA 63 240
theorem Lu (n:Nat):fF Tryz.prog (N9 n):=Pg Tryz.call63 (λs n hl h w=>(Tryz.strconv_Atoi s n hl h w).mono λe w' ⟨h1,t,h2⟩=>⟨h1,h2▸qj _ _ _⟩) (λs hl h w hg=>Qj s hl h w hg)
def c63 (n:Nat):FE Tryz.prog:=libF (Lu n)
def c314 (n:Nat):FF Tryz.prog 314 [.s,.p 0 0] [.cells [.p 1 0],.cells q30] 1 2 [⟨.i .i64,q113,[],false⟩,⟨.it 197 (.ag [.i .i64,.i .i64]),q113,[],true⟩]:=funC Tryz.func314 Tryz.call314 [(c131 n).e,(c191 n).e,(c288 n).e,(c63 n)] [] [] [] [0,1] (de n)
def c291 (n:Nat):FF Tryz.prog 291 [.p 0 0] q90 0 1 [⟨.it 197 (.ag [.i .i64,.i .i64]),q54,[],true⟩,⟨.ag q38,q54,[],false⟩]:=funC Tryz.func291 Tryz.call291 [(c131 n).e,(c191 n).e,(c288 n).e,(c314 n).e] [] [] [] [0] (lV n)
def c290 (n:Nat):FF Tryz.prog 290 q117 [.cells [.p 2 0],.cells q21,.cells q30] 1 3 [⟨.it 197 (.ag [.i .i64,.i .i64]),[(1,.cells q21),(2,.cells q30)],[],true⟩,⟨.tp [],[(1,.cells q21),(2,.cells q30)],[],false⟩]:=funC Tryz.func290 Tryz.call290 [(c291 n).e] [] [] [] [0,1,2] (kg n)
def c108 (n:Nat):PF Tryz.prog 108 [.i .u8] (.i .i64):=aK Tryz.func108 Tryz.call108 [] [] [] [] (ip n)
def WU (n:Nat):List (FE Tryz.prog):=[(c108 n).e]
def U0 (n:Nat):LP Tryz.prog Tryz.f100.ntmps:=cq (WU n) [] 0 (sb (acM [] [] Tryz.f100) 0) false ⟨[(1,.i .i64),(13,.ai .u8 3),(14,.i .i64)],[],1,0,0,0⟩ [] q122 (ii n) n
def c100 (n:Nat):PF Tryz.prog 100 q111 (.i .i64):=aK Tryz.func100 Tryz.call100 (WU n) [U0 n] [] [] (dN n)
def c315 (n:Nat):FF Tryz.prog 315 [.i .i64,.p 2 0,.p 0 0,.p 1 0] [.ints .u8 3,.ints .u8 3,.cells [.i .u8]] 2 3 [⟨.i .u8,[(2,.cells [.i .u8])],[],false⟩]:=funC Tryz.func315 Tryz.call315 [] [] [] [] [2,0,1] (sa n)
def Ug (n:Nat):List (FE Tryz.prog):=[(c100 n).e,(c315 n).e]
def W8 (n:Nat):LP Tryz.prog Tryz.f294.ntmps:=cq (Ug n) [] 1 (sb (acM [0] [] Tryz.f294) 1) false ⟨[(6,.p 2 0),(12,.fn 315 [.p 5 0,.p 1 0,.p 0 0]),(13,.p 6 0),(14,.i .i64)],[(0,.ints .u8 3),(1,.ints .u8 3),(2,.ints .u8 3),(5,.cells [.i .u8]),(6,.ints .u8 3)],7,0,0,0⟩ [] [⟨.exit 2,⟨[(6,.p 2 0),(13,.p 6 0)],[(2,.ints .u8 3),(6,.ints .u8 3)],7,0,0,0⟩⟩] (qu n) n
def c294 (n:Nat):PF Tryz.prog 294 q119 (.tp q111):=aK Tryz.func294 Tryz.call294 (Ug n) [W8 n] [0] [] (eH n)
def c289 (n:Nat):FF Tryz.prog 289 [.p 0 0] [.cells [.fn 1000288 [.p 1 0]],.cells q30] 1 2 [⟨.it 197 (.ag [.i .i64,.i .i64]),q113,[],true⟩,⟨.s,q113,[],false⟩]:=funC Tryz.func289 Tryz.call289 [(c288 n).e] [] [] [] [0,1] (iP n)
def c292 (n:Nat):FF Tryz.prog 292 [.p 0 0,.p 2 0] q100 2 4 [⟨.it 197 (.ag [.i .i64,.i .i64]),q97,[],true⟩,⟨.tp [],q97,[],false⟩]:=funC Tryz.func292 Tryz.call292 [(c289 n).e] [] [] [] [0,2,1,3] (ka n)
def c293 (n:Nat):FF Tryz.prog 293 [.p 0 0,.p 2 0] q100 2 4 [⟨.it 197 (.ag [.i .i64,.i .i64]),q97,[],true⟩,⟨.tp [],q97,[],false⟩]:=funC Tryz.func293 Tryz.call293 [(c289 n).e] [] [] [] [0,2,1,3] (ki n)
def c250 (n:Nat):FF Tryz.prog 250 [.p 0 0] q90 0 1 [⟨.it 197 (.ag [.i .i64,.i .i64]),q54,[],true⟩,⟨.tp [.ag q21,.ai .i64 3],q54,[],false⟩]:=funC Tryz.func250 Tryz.call250 [(c287 n).e,(c194 n).e,(c290 n).e,(c294 n).e,(c131 n).e,(c292 n).e,(c293 n).e] [] [0] [] [0] (jQ n)
def c96 (n:Nat):PF Tryz.prog 96 [.i .i64] (.i .i64):=aK Tryz.func96 Tryz.call96 [] [] [] [] (dI n)
theorem pure_seasons_Check (n:Nat):∀a r,dI n a=some r->lk Tryz.prog 96 (argP [.i .i64] a) (encP (.i .i64) r):=λa r h=>(c96 n).ok a r h
def c51 (n:Nat):PF Tryz.prog 51 q88 (.tp [.i .i64,.b]):=aK Tryz.func51 Tryz.call51 [(c63 n),(c96 n).e] [] [] [] (bN n)
def c306 (n:Nat):PF Tryz.prog 306 [.i .i32] (.b):=aK Tryz.func306 Tryz.call306 [] [] [] [] (dW n)
def NQ (n:Nat):List (FE Tryz.prog):=[(c249 n).e,(c306 n).e]
def Vh (n:Nat):LP Tryz.prog Tryz.f275.ntmps:=cq (NQ n) [] 0 (sb (acM [] [] Tryz.f275) 0) false ⟨[(175,.p 0 0)],[(0,.iter)],1,0,0,0⟩ [] [⟨.ret,⟨q93,[],1,0,0,0⟩⟩,⟨.exit 9,⟨[],[],1,0,0,0⟩⟩] (dR n) n
def Vy (n:Nat):LP Tryz.prog Tryz.f275.ntmps:=cq (NQ n) [] 2 (sb (sb (acM [] [] Tryz.f275) 1).body 2) false ⟨q121,[],128,0,0,0⟩ [] [⟨.exit 3,⟨[(8,.i .i64),(9,.i .i64)],[],128,0,0,0⟩⟩] (mM n) n
def Si (n:Nat):LP Tryz.prog Tryz.f275.ntmps:=cq (NQ n) [] 2 (sb (sb (acM [] [] Tryz.f275) 1).body 2) false ⟨q121,[],56,0,0,0⟩ [] [⟨.exit 3,⟨[(8,.i .i64),(9,.i .i64)],[],56,0,0,0⟩⟩] (mf n) n
def Vk (n:Nat):LP Tryz.prog Tryz.f275.ntmps:=cq (NQ n) [altL (Vy n) (Si n) rfl] 1 (sb (acM [] [] Tryz.f275) 1) false ⟨[(0,.s),(7,.s),(8,.i .i64),(9,.i .i64)],[],0,0,0,0⟩ [] [⟨.ret,q120⟩,⟨.exit 1,q107⟩] (dU n) n
def c275 (n:Nat):PF Tryz.prog 275 [.s,.i .i32] (.i .i64):=aK Tryz.func275 Tryz.call275 (NQ n) [Vh n,Vk n,noL 3 (sb (acM [] [] Tryz.f275) 3)] [] [] (ef n)
def c226 (n:Nat):PF Tryz.prog 226 [.s,.i .i32] (.b):=aK Tryz.func226 Tryz.call226 [(c275 n).e] [] [] [] (dT n)
def c225 (n:Nat):FF Tryz.prog 225 [.i .i32,.p 0 0] [.cells [.s]] 1 1 [⟨.b,[],[],false⟩]:=funC Tryz.func225 Tryz.call225 [(c226 n).e] [] [] [] [0] (jY n)
def UV (n:Nat):List (FE Tryz.prog):=[(c225 n).e]
def US (n:Nat):LP Tryz.prog Tryz.f274.ntmps:=cq (UV n) [] 0 (sb (acM [] [] Tryz.f274) 0) false ⟨[(1,.fn 225 [.p 0 0]),(2,.b),(10,.p 1 0)],[(0,.cells [.s]),(1,.iter)],2,1,1,1⟩ [] [⟨.ret,⟨[(6,.i .i64)],[],2,1,1,1⟩⟩,⟨.exit 0,⟨[],[],2,1,1,1⟩⟩] (cP n) n
def c274 (n:Nat):FF Tryz.prog 274 [.s,.fn 225 [.p 0 0],.b] [.cells [.s]] 1 1 [⟨.i .i64,[],[],false⟩]:=funC Tryz.func274 Tryz.call274 (UV n) [US n] [] [] [0] (lQ n)
def c224 (n:Nat):FF Tryz.prog 224 [.s,.fn 225 [.p 0 0]] [.cells [.s]] 1 1 [⟨.i .i64,[],[],false⟩]:=funC Tryz.func224 Tryz.call224 [(c274 n).e] [] [] [] [0] (lK n)
def c164 (n:Nat):PF Tryz.prog 164 [.s,.s] (.b):=aK Tryz.func164 Tryz.call164 [(c224 n).e] [] [] [] (gA n)
def U6 (n:Nat):LP Tryz.prog Tryz.f228.ntmps:=cq [] [] 0 (sb (acM [] [] Tryz.f228) 0) false ⟨[(0,.s),(1,.i .u8)],[],0,0,0,0⟩ [] [⟨.exit 0,⟨[(0,.s)],[],0,0,0,0⟩⟩] (dA n) n
def c228 (n:Nat):PF Tryz.prog 228 [.s,.i .u8] (.s):=aK Tryz.func228 Tryz.call228 [] [U6 n] [] [] (gg n)
def VY (n:Nat):LP Tryz.prog Tryz.f227.ntmps:=cq [] [] 0 (sb (acM [] [] Tryz.f227) 0) false ⟨[(0,.s),(1,.i .u8)],[],0,0,0,0⟩ [] [⟨.exit 0,⟨[(0,.s)],[],0,0,0,0⟩⟩] (fg n) n
def c227 (n:Nat):PF Tryz.prog 227 [.s,.i .u8] (.s):=aK Tryz.func227 Tryz.call227 [] [VY n] [] [] (gM n)
def c165 (n:Nat):PF Tryz.prog 165 [.s,.sk [48]] (.s):=aK Tryz.func165 Tryz.call165 [(c228 n).e,(c227 n).e] [] [] [] (oe n)
def c223 (n:Nat):PF Tryz.prog 223 [.s,.sk [88]] (.i .i64):=aK Tryz.func223 Tryz.call223 [(c270 n).e] [noL 0 (sb (acM [] [] Tryz.f223) 0)] [] [] (js n)
def c163 (n:Nat):PF Tryz.prog 163 [.s,.sk [88]] (.i .i64):=aK Tryz.func163 Tryz.call163 [(c223 n).e] [] [] [] (m9 n)
def c97 (n:Nat):PF Tryz.prog 97 [.s,.sk [88]] (.b):=aK Tryz.func97 Tryz.call97 [(c163 n).e] [] [] [] (iN n)
def c112 (n:Nat):PF Tryz.prog 112 q125 (.b):=aK Tryz.func112 Tryz.call112 [(c97 n).e] [] [] [] (dh n)
noncomputable def NC (_n:Nat):Ent:=J9 174
theorem IT (n:Nat):fF Tryz.prog (NC n):=MJ Tryz.call174 λs h v hv w=>(Tryz.strconv_ParseInt_10_at64_ok s h v hv w).mono λe w' ⟨h1,h2⟩=>⟨h1,h2.elim (λh=>h▸RowKit.Below.refl _ _) (λ⟨t,h⟩=>h▸qj _ _ _)⟩
def c174 (n:Nat):FE Tryz.prog:=libF (IT n)
def Xi (n:Nat):LP Tryz.prog Tryz.f175.ntmps:=cq [] [] 0 (sb (acM [] [] Tryz.f175) 0) false ⟨[(4,.i .i64),(9,.i .i64),(10,.i .i64)],[],0,0,0,0⟩ [] [⟨.exit 0,q120⟩] (kK n) n
def c175 (n:Nat):PF Tryz.prog 175 [.i .i64] (.tp [.i .i64,.i .i64]):=aK Tryz.func175 Tryz.call175 [] [Xi n] [] [] (oZ n)
def c239 (n:Nat):PF Tryz.prog 239 [.i .i64] (.i .u64):=aK Tryz.func239 Tryz.call239 [] [] [] [] (uh n)
def c238 (n:Nat):PF Tryz.prog 238 [.i .u64,.i .u64] (.tp [.i .u64,.i .u64]):=aK Tryz.func238 Tryz.call238 [] [] [] [] (k7 n)
def c240 (n:Nat):PF Tryz.prog 240 [.i .u64,.b] (.tp [.i .i64,.i .i64]):=aK Tryz.func240 Tryz.call240 [] [] [] [] (sE n)
def c176 (n:Nat):PF Tryz.prog 176 [.i .i64,.i .i64] (.tp [.i .i64,.i .i64]):=aK Tryz.func176 Tryz.call176 [(c239 n).e,(c238 n).e,(c240 n).e] [] [] [] (vP n)
def c113 (n:Nat):PF Tryz.prog 113 q125 (.tp [.i .i64,.i .i64]):=aK Tryz.func113 Tryz.call113 [(c174 n),(c175 n).e,(c176 n).e] [] [] [] (ed n)
def c166 (n:Nat):PF Tryz.prog 166 q125 (.b):=aK Tryz.func166 Tryz.call166 [(c164 n).e,(c113 n).e] [] [] [] (aW n)
def c103 (n:Nat):PF Tryz.prog 103 q125 (.i .i64):=aK Tryz.func103 Tryz.call103 [(c164 n).e,(c165 n).e,(c112 n).e,(c166 n).e] [] [] [] (cG n)
theorem pure_yearforms_Check (n:Nat):∀a r,cG n a.1 a.2.1 a.2.2.1 a.2.2.2.1 a.2.2.2.2=some r->lk Tryz.prog 103 (argP q125 a) (encP (.i .i64) r):=λa r h=>(c103 n).ok a r h
def c62 (n:Nat):PF Tryz.prog 62 q125 (.tp [.i .i64,.i .i64]):=aK Tryz.func62 Tryz.call62 [(c103 n).e,(c112 n).e,(c113 n).e] [] [] [] (eN n)
noncomputable def yR (l:List V):Option (Int):=match l with
 | [.i .i64 a0]=>some (a0)
 | _=>none
noncomputable def Nl (n:Nat):Ent:=BU 182 yR (λa=>fB n a) (λr=>.tp [.i .i64 r.1,.i .i64 r.2.1,.i .i64 r.2.2])
theorem It (n:Nat):fF Tryz.prog (Nl n):=tn (arg:=λa=>[.i .i64 a]) Tryz.call182 (λl a h=>by
 unfold yR at h
 split at h
 ·cases h;rfl
 ·cases h) (λa=>rfl) (λa r h=>sF n (λx r h=>pure_seasons_Check n x r h) a r h)
def c182 (n:Nat):FE Tryz.prog:=libF (It n)
def c184 (n:Nat):PF Tryz.prog 184 [.i .i64] (.i .i64):=aK Tryz.func184 Tryz.call184 [] [] [] [] (jh n)
def c187 (n:Nat):PF Tryz.prog 187 [.i .i64,.i .i64] (.i .i64):=aK Tryz.func187 Tryz.call187 [(c184 n).e] [] [] [] (kC n)
def c286 (n:Nat):PF Tryz.prog 286 [.i .i64,.i .i64] (.tp [.i .i64,.i .i64]):=aK Tryz.func286 Tryz.call286 [] [] [] [] (HM n)
def c245 (n:Nat):PF Tryz.prog 245 [.i .i64,.i .i64] (.tp [.i .i64,.i .i64]):=aK Tryz.func245 Tryz.call245 [(c286 n).e] [] [] [] (l6 n)
theorem pure_ints_Div (n:Nat):∀a r,l6 n a.1 a.2=some r->lk Tryz.prog 245 (argP [.i .i64,.i .i64] a) (encP (.tp [.i .i64,.i .i64]) r):=λa r h=>(c245 n).ok a r h
noncomputable def zn (l:List V):Option (Int):=match l with
 | [.i .i64 a0]=>some (a0)
 | _=>none
noncomputable def NS (n:Nat):Ent:=BU 247 zn (λa=>fA n a) (λr=>.i .i64 r)
theorem Iq (n:Nat):fF Tryz.prog (NS n):=tn (arg:=λa=>[.i .i64 a]) Tryz.call247 (λl a h=>by
 unfold zn at h
 split at h
 ·cases h;rfl
 ·cases h) (λa=>rfl) (λa r h=>uZ n (λx y r h=>pure_ints_Div n (x,y) r h) a r h)
def c247 (n:Nat):FE Tryz.prog:=libF (Iq n)
def c185 (n:Nat):PF Tryz.prog 185 [.i .i64] (.i .i64):=aK Tryz.func185 Tryz.call185 [(c247 n)] [] [] [] (lR n)
def c119 (n:Nat):PF Tryz.prog 119 [.i .i64] (.tp [.i .i64,.i .i64]):=aK Tryz.func119 Tryz.call119 [(c184 n).e,(c185 n).e] [] [] [] (lI n)
def c248 (n:Nat):PF Tryz.prog 248 [.i .i64] (.tp [.b,.i .i64]):=aK Tryz.func248 Tryz.call248 [(c184 n).e,(c247 n)] [] [] [] (kH n)
theorem pure_years_Leap (n:Nat):∀a r,kH n a=some r->lk Tryz.prog 248 (argP [.i .i64] a) (encP (.tp [.b,.i .i64]) r):=λa r h=>(c248 n).ok a r h
noncomputable def y7 (l:List V):Option (Int×Int):=match l with
 | [.i .i64 a0,.i .i64 a1]=>some (a0,a1)
 | _=>none
noncomputable def JF (n:Nat):Ent:=BU 188 y7 (λa=>eD n a.1 a.2) (λr=>.i .i64 r)
theorem IQ (n:Nat):fF Tryz.prog (JF n):=tn (arg:=λa=>[.i .i64 a.1,.i .i64 a.2]) Tryz.call188 (λl a h=>by
 unfold y7 at h
 split at h
 ·cases h;rfl
 ·cases h) (λa=>rfl) (λa r h=>tg n (λx r h=>pure_years_Leap n x r h) a.1 a.2 r h)
def c188 (n:Nat):FE Tryz.prog:=libF (IQ n)
def Vf (n:Nat):List (FE Tryz.prog):=[(c187 n).e,(c119 n).e,(c188 n)]
def Wz (n:Nat):LP Tryz.prog Tryz.f123.ntmps:=cq (Vf n) [] 0 (sb (acM [] [] Tryz.f123) 0) false ⟨[(0,.i .i64),(7,.i .i64),(22,.i .i64),(23,.i .i64)],[],0,0,0,0⟩ [] [⟨.exit 0,⟨[(7,.i .i64)],[],0,0,0,0⟩⟩] (bJ n) n
def c123 (n:Nat):PF Tryz.prog 123 [.i .i64,.i .i64] (.tp [.i .i64,.i .i64]):=aK Tryz.func123 Tryz.call123 (Vf n) [Wz n] [] [] (fC n)
noncomputable def yU (l:List V):Option (Int×Int):=match l with
 | [.i .i64 a0,.i .i64 a1]=>some (a0,a1)
 | _=>none
noncomputable def KI (n:Nat):Ent:=BU 244 yU (λa=>rt n a.1 a.2) (λr=>.tp [.i .i64 r.1,.i .i64 r.2])
theorem Ij (n:Nat):fF Tryz.prog (KI n):=tn (arg:=λa=>[.i .i64 a.1,.i .i64 a.2]) Tryz.call244 (λl a h=>by
 unfold yU at h
 split at h
 ·cases h;rfl
 ·cases h) (λa=>rfl) (λa r h=>AA n a.1 a.2 r h)
def c244 (n:Nat):FE Tryz.prog:=libF (Ij n)
def c246 (n:Nat):PF Tryz.prog 246 [.i .i64,.i .i64] (.tp [.i .i64,.i .i64]):=aK Tryz.func246 Tryz.call246 [] [] [] [] (vO n)
def c183 (n:Nat):PF Tryz.prog 183 [.i .i64,.i .i64,.i .i64] (.tp [.i .i64,.i .i64,.i .i64]):=aK Tryz.func183 Tryz.call183 [(c187 n).e,(c244 n),(c245 n).e,(c246 n).e,(c184 n).e] [] [] [] (oG n)
def c124 (n:Nat):PF Tryz.prog 124 [.i .i64,.i .i64] (.tp [.i .i64,.i .i64]):=aK Tryz.func124 Tryz.call124 [(c123 n).e,(c188 n)] [] [] [] (hZ n)
def c117 (n:Nat):PF Tryz.prog 117 [.i .i64,.i .i64] (.tp [.ag q65,.i .i64]):=aK Tryz.func117 Tryz.call117 [(c182 n),(c123 n).e,(c183 n).e,(c124 n).e] [] [] [] (iE n)
def c98 (n:Nat):PF Tryz.prog 98 q88 (.b):=aK Tryz.func98 Tryz.call98 [(c103 n).e,(c51 n).e,(c112 n).e,(c62 n).e,(c117 n).e] [] [] [] (fN n)
def X8 (n:Nat):LP Tryz.prog Tryz.f99.ntmps:=cq [] [] 0 (sb (acM [] [] Tryz.f99) 0) false q130 [] [⟨.ret,⟨[(4,.b)],[],0,0,0,0⟩⟩,⟨.exit 0,q107⟩] (dp n) n
def c99 (n:Nat):PF Tryz.prog 99 q30 (.b):=aK Tryz.func99 Tryz.call99 [] [X8 n] [] [] (dc n)
def X5 (n:Nat):LP Tryz.prog Tryz.f52.ntmps:=cq [] [] 0 (sb (acM [] [] Tryz.f52) 0) false ⟨[(3,.i .i64),(10,.ag [.s,.s]),(11,.i .i64)],[],1,0,0,0⟩ [] [⟨.exit 0,⟨[(3,.i .i64)],[],1,0,0,0⟩⟩] (bX n) n
def c52 (n:Nat):PF Tryz.prog 52 q88 (.i .i64):=aK Tryz.func52 Tryz.call52 [] [X5 n] [] [] (bA n)
def c55 (n:Nat):PF Tryz.prog 55 q88 (.i .i64):=aK Tryz.func55 Tryz.call55 [(c51 n).e,(c98 n).e,(c99 n).e,(c52 n).e,(c100 n).e] [] [] [] (jr n)
def c237 (n:Nat):PF Tryz.prog 237 q30 (.b):=aK Tryz.func237 Tryz.call237 [] [] [] [] (kN n)
def Wq (n:Nat):List (FE Tryz.prog):=[(c237 n).e]
def WS (n:Nat):LP Tryz.prog Tryz.f170.ntmps:=cq (Wq n) [] 0 (sb (acM [] [] Tryz.f170) 0) false ⟨[(0,.s),(5,.ws 0),(7,.i .i64),(8,.i .i64)],q81,1,0,0,0⟩ [.nilT 5 0 [.i .i64]] [⟨.exit 0,⟨[(5,.ws 0)],q81,1,0,0,0⟩⟩] (f8 n) n
def c170 (n:Nat):FF Tryz.prog 170 q30 [] 0 0 [⟨.ws 0,q81,[0],false⟩]:=funC Tryz.func170 Tryz.call170 (Wq n) [WS n] [] [] [] (fq n)
def c110 (n:Nat):FF Tryz.prog 110 q88 [] 0 0 [⟨.ag q37,[(0,.rows [.i .i64]),(1,.rows [.i .i64])],[0,1],false⟩]:=funC Tryz.func110 Tryz.call110 [(c51 n).e,(c170 n).e] [] [] [] [] (pF n)
def c171 (n:Nat):FF Tryz.prog 171 [.ws 0] q98 1 1 [⟨.ws 1,[(1,.rows [.i .i64])],[1],false⟩]:=funC Tryz.func171 Tryz.call171 [] [] [] [] [0] (jM n)
def Vd (n:Nat):LP Tryz.prog Tryz.f172.ntmps:=cq [] [] 0 (sb (acM [] [] Tryz.f172) 0) false ⟨[(0,.ws 0),(2,.i .i64),(3,.i .i64)],q81,1,1,0,1⟩ [] [⟨.exit 0,⟨[],q81,1,1,0,1⟩⟩] (jX n) n
def c172 (n:Nat):FF Tryz.prog 172 [.ws 0] q98 0 1 [⟨.tp [],q81,[],false⟩]:=funC Tryz.func172 Tryz.call172 [] [Vd n] [] [] [0] (jb n)
def Ul (n:Nat):LP Tryz.prog Tryz.f200.ntmps:=cq [] [] 0 (sb (acM [] [] Tryz.f200) 0) false ⟨[(0,.s),(9,.p 0 0)],[(0,.iter)],1,0,0,0⟩ [] [⟨.ret,q106⟩,⟨.exit 0,⟨[(0,.s)],[],1,0,0,0⟩⟩] (iW n) n
def c200 (n:Nat):PF Tryz.prog 200 [.s] (.i .i64):=aK Tryz.func200 Tryz.call200 [] [Ul n] [] [] (kz n)
def VQ (n:Nat):LP Tryz.prog Tryz.f321.ntmps:=cq [] [] 0 (sb (acM [] [] Tryz.f321) 0) false ⟨[(1,.i .u8),(5,.i .i64),(9,.ws 0),(10,.i .i64),(11,.i .i64)],[(0,.rows [.i .u8])],1,0,0,0⟩ [] [⟨.exit 0,⟨[(5,.i .i64)],[],1,0,0,0⟩⟩] (hO n) n
def c321 (n:Nat):PF Tryz.prog 321 [.s,.i .u8] (.i .i64):=aK Tryz.func321 Tryz.call321 [] [VQ n] [] [] (l9 n)
def c300 (n:Nat):PF Tryz.prog 300 [.s] (.tp [.i .i64,.i .i64]):=aK Tryz.func300 Tryz.call300 [(c200 n).e,(c321 n).e] [] [] [] (pm n)
def c201 (n:Nat):PF Tryz.prog 201 [.i .i64] (.i .i64):=aK Tryz.func201 Tryz.call201 [(c175 n).e] [] [] [] (pu n)
def c301 (n:Nat):PF Tryz.prog 301 q30 (.b):=aK Tryz.func301 Tryz.call301 [(c201 n).e] [] [] [] (mn n)
def Uw (n:Nat):LP Tryz.prog Tryz.f322.ntmps:=cq [] [] 0 (sb (acM [] [] Tryz.f322) 0) false ⟨[(1,.i .i64),(4,.p 0 0),(5,.i .i64)],[(0,.ints .u8 18)],1,0,0,0⟩ [] [⟨.exit 0,⟨[(4,.p 0 0)],[(0,.ints .u8 18)],1,0,0,0⟩⟩] (iZ n) n
def c322 (n:Nat):PF Tryz.prog 322 q30 (.ai .u8 18):=aK Tryz.func322 Tryz.call322 [] [Uw n] [] [] (lH n)
def c323 (n:Nat):PF Tryz.prog 323 [.s,.ai .u8 18] (.i .i64):=aK Tryz.func323 Tryz.call323 [(c321 n).e] [] [] [] (gx n)
def Og (n:Nat):List (FE Tryz.prog):=[(c322 n).e,(c323 n).e]
def Xk (n:Nat):LP Tryz.prog Tryz.f302.ntmps:=cq (Og n) [] 0 (sb (acM [] [] Tryz.f302) 0) false q76 [] [⟨.exit 0,q76⟩] (fU n) n
def Up (n:Nat):LP Tryz.prog Tryz.f302.ntmps:=cq (Og n) [] 1 (sb (acM [] [] Tryz.f302) 1) false ⟨[(0,.s),(2,.b),(8,.i .u8),(9,.i .u8),(10,.p 0 0),(11,.p 1 0),(12,.i .i64)],[(0,.ints .u8 18),(1,.ints .u8 18)],74,0,0,0⟩ [] [⟨.ret,⟨[(6,.i .i64),(7,.i .i64)],[],74,0,0,0⟩⟩,⟨.exit 2,⟨[(0,.s),(2,.b),(8,.i .u8),(11,.p 1 0),(12,.i .i64)],[(1,.ints .u8 18)],74,0,0,0⟩⟩] (cA n) n
def WJ (n:Nat):LP Tryz.prog Tryz.f302.ntmps:=cq (Og n) [] 2 (sb (acM [] [] Tryz.f302) 2) false ⟨[(0,.s),(8,.i .u8),(11,.p 1 0),(12,.i .i64)],[(1,.ints .u8 18)],74,0,0,0⟩ [] [⟨.exit 5,⟨[(0,.s),(11,.p 1 0)],[(1,.ints .u8 18)],74,0,0,0⟩⟩] (bw n) n
def c302 (n:Nat):PF Tryz.prog 302 [.s,.i .i64,.b] (.tp [.i .i64,.i .i64]):=aK Tryz.func302 Tryz.call302 (Og n) [Xk n,Up n,WJ n] [] [] (du n)
def c259 (n:Nat):PF Tryz.prog 259 q30 (.tp [.i .i64,.i .i64]):=aK Tryz.func259 Tryz.call259 [(c200 n).e,(c300 n).e,(c301 n).e,(c302 n).e] [] [] [] (rK n)
def c303 (n:Nat):PF Tryz.prog 303 [.s] (.tp [.i .i64,.i .i64]):=aK Tryz.func303 Tryz.call303 [(c200 n).e,(c321 n).e] [] [] [] (lZ n)
def c260 (n:Nat):PF Tryz.prog 260 q30 (.tp [.i .i64,.i .i64]):=aK Tryz.func260 Tryz.call260 [(c200 n).e,(c301 n).e,(c303 n).e,(c302 n).e] [] [] [] (rU n)
def c203 (n:Nat):PF Tryz.prog 203 [.s,.i .i64,.b,.i .i64] (.tp [.i .i64,.b]):=aK Tryz.func203 Tryz.call203 [(c259 n).e,(c260 n).e] [] [] [] (fS n)
def c140 (n:Nat):FF Tryz.prog 140 [.ag q37,.i .i64,.b] q115 2 2 [⟨.tp [.i .i64,.b],[],[],false⟩]:=funC Tryz.func140 Tryz.call140 [(c112 n).e,(c62 n).e,(c203 n).e] [] [] [] [0,1] (cr n)
def c173 (n:Nat):FF Tryz.prog 173 [.i .i64,.i .i64,.p 0 0] [.cells [.b]] 1 1 [⟨.b,[],[],false⟩]:=funC Tryz.func173 Tryz.call173 [] [] [] [] [0] (cQ n)
def c204 (n:Nat):PF Tryz.prog 204 [.i .i64,.i .i64] (.tp [.i .i64,.i .i64]):=aK Tryz.func204 Tryz.call204 [(c187 n).e,(c188 n)] [] [] [] (oQ n)
def c141 (n:Nat):FF Tryz.prog 141 [.ag q37,.i .i64,.i .i64] q115 2 2 [⟨.i .i64,[],[],false⟩]:=funC Tryz.func141 Tryz.call141 [(c204 n).e] [] [] [] [0,1] (fa n)
def r7 (n:Nat):List (FE Tryz.prog):=[(c171 n).e,(c172 n).e,(c140 n).e,(c173 n).e,(c141 n).e]
def UU (n:Nat):LP Tryz.prog Tryz.f111.ntmps:=fp (r7 n) [] 1003 (sb (acM [] [3,17,20,23,30] Tryz.f111) 1003) false ⟨[(3,.p 2 0),(4,.p 3 0),(5,.p 4 0),(6,.p 5 0),(8,.ik .i64 1),(9,.ws 0),(10,.ws 1),(25,.b)],q70,62,2,2,2⟩ [⟨.nrm,⟨[(3,.p 2 0),(4,.p 3 0),(5,.p 4 0),(6,.p 5 0),(8,.ik .i64 (-1)),(9,.ws 62),(10,.ws 63)],[(0,.rows [.i .i64]),(1,.rows [.i .i64]),(2,.cells q37),(3,.cells [.i .i64,.i .i64,.i .i64]),(4,.cells [.b]),(5,.cells [.ik .i64 0,.ik .i64 0,.ik .i64 0]),(62,.rows [.i .i64]),(63,.rows [.i .i64])],64,2,2,2⟩⟩,⟨.nrm,⟨[(3,.p 2 0),(4,.p 3 0),(5,.p 4 0),(6,.p 5 0),(8,.ik .i64 1),(9,.ws 0),(10,.ws 1)],q70,62,2,2,2⟩⟩] (jv n)
def MG (n:Nat):LP Tryz.prog Tryz.f111.ntmps:=fp (r7 n) [] 1020 (sb (sb (sb (sb (acM [] [3,17,20,23,30] Tryz.f111) 0).body 1).body 1017) 1020) false ⟨[(3,.p 2 0),(4,.p 3 0),(5,.p 4 0),(6,.p 5 0),(8,.i .i64),(9,.ws 62),(10,.ws 63),(11,.fn 173 [.p 4 0]),(12,.i .i64),(15,.i .i64),(16,.b),(53,.ws 62),(54,.i .i64),(55,.i .i64)],q15,64,2,2,2⟩ [⟨.nrm,⟨[(3,.p 2 0),(4,.p 3 0),(5,.p 4 0),(6,.p 5 0),(8,.i .i64),(9,.ws 62),(10,.ws 63),(11,.fn 173 [.p 4 0]),(12,.i .i64),(15,.i .i64),(16,.b),(53,.ws 62),(54,.i .i64),(55,.i .i64),(76,.b)],q15,64,2,2,2⟩⟩] (lp n)
def Hy (n:Nat):LP Tryz.prog Tryz.f111.ntmps:=fp (r7 n) [] 1020 (sb (sb (sb (sb (acM [] [3,17,20,23,30] Tryz.f111) 0).body 1).body 1017) 1020) false ⟨[(3,.p 2 0),(4,.p 3 0),(5,.p 4 0),(6,.p 5 0),(8,.i .i64),(9,.ws 0),(10,.ws 1),(11,.fn 173 [.p 4 0]),(12,.i .i64),(15,.i .i64),(16,.b),(53,.ws 0),(54,.i .i64),(55,.i .i64)],q18,62,2,2,2⟩ [⟨.nrm,⟨[(3,.p 2 0),(4,.p 3 0),(5,.p 4 0),(6,.p 5 0),(8,.i .i64),(9,.ws 0),(10,.ws 1),(11,.fn 173 [.p 4 0]),(12,.i .i64),(15,.i .i64),(16,.b),(53,.ws 0),(54,.i .i64),(55,.i .i64),(76,.b)],q18,62,2,2,2⟩⟩] (fb n)
def NA (n:Nat):LP Tryz.prog Tryz.f111.ntmps:=fp (r7 n) [] 1023 (sb (sb (sb (sb (acM [] [3,17,20,23,30] Tryz.f111) 0).body 1).body 1017) 1023) false q60 [⟨.nrm,q60⟩] (lw n)
def G7 (n:Nat):LP Tryz.prog Tryz.f111.ntmps:=fp (r7 n) [] 1023 (sb (sb (sb (sb (acM [] [3,17,20,23,30] Tryz.f111) 0).body 1).body 1017) 1023) false q61 [⟨.nrm,q61⟩] (fk n)
def JU (n:Nat):LP Tryz.prog Tryz.f111.ntmps:=fp (r7 n) [] 1030 (sb (sb (sb (sb (sb (acM [] [3,17,20,23,30] Tryz.f111) 0).body 1).body 1017) 2).body 1030) false ⟨[(3,.p 2 0),(4,.p 3 0),(5,.p 4 0),(6,.p 5 0),(8,.i .i64),(9,.ws 62),(10,.ws 63),(11,.fn 173 [.p 4 0]),(12,.i .i64),(15,.i .i64),(16,.b),(17,.i .i64),(19,.i .i64),(53,.ws 62),(54,.i .i64),(55,.i .i64),(94,.ws 63),(95,.i .i64),(96,.i .i64)],q15,64,2,2,2⟩ [⟨.nrm,⟨[(3,.p 2 0),(4,.p 3 0),(5,.p 4 0),(6,.p 5 0),(8,.i .i64),(9,.ws 62),(10,.ws 63),(11,.fn 173 [.p 4 0]),(12,.i .i64),(15,.i .i64),(16,.b),(17,.i .i64),(19,.i .i64),(53,.ws 62),(54,.i .i64),(55,.i .i64),(94,.ws 63),(95,.i .i64),(96,.i .i64),(119,.b)],q15,64,2,2,2⟩⟩] (lz n)
def Hm (n:Nat):LP Tryz.prog Tryz.f111.ntmps:=fp (r7 n) [] 1030 (sb (sb (sb (sb (sb (acM [] [3,17,20,23,30] Tryz.f111) 0).body 1).body 1017) 2).body 1030) false ⟨[(3,.p 2 0),(4,.p 3 0),(5,.p 4 0),(6,.p 5 0),(8,.i .i64),(9,.ws 0),(10,.ws 1),(11,.fn 173 [.p 4 0]),(12,.i .i64),(15,.i .i64),(16,.b),(17,.i .i64),(19,.i .i64),(53,.ws 0),(54,.i .i64),(55,.i .i64),(94,.ws 1),(95,.i .i64),(96,.i .i64)],q18,62,2,2,2⟩ [⟨.nrm,⟨[(3,.p 2 0),(4,.p 3 0),(5,.p 4 0),(6,.p 5 0),(8,.i .i64),(9,.ws 0),(10,.ws 1),(11,.fn 173 [.p 4 0]),(12,.i .i64),(15,.i .i64),(16,.b),(17,.i .i64),(19,.i .i64),(53,.ws 0),(54,.i .i64),(55,.i .i64),(94,.ws 1),(95,.i .i64),(96,.i .i64),(119,.b)],q18,62,2,2,2⟩⟩] (iJ n)
def Q6 (n:Nat):LP Tryz.prog Tryz.f111.ntmps:=cq (r7 n) [altL (JU n) (Hm n) rfl] 2 (sb (sb (sb (sb (acM [] [3,17,20,23,30] Tryz.f111) 0).body 1).body 1017) 2) false ⟨[(3,.p 2 0),(4,.p 3 0),(5,.p 4 0),(6,.p 5 0),(8,.i .i64),(9,.ws 62),(10,.ws 63),(11,.fn 173 [.p 4 0]),(12,.i .i64),(15,.i .i64),(16,.b),(17,.i .i64),(53,.ws 62),(54,.i .i64),(55,.i .i64),(94,.ws 63),(95,.i .i64),(96,.i .i64)],q15,64,2,2,2⟩ [] [⟨.ret,q128⟩,⟨.exit 4,q36⟩] (md n) n
def MB (n:Nat):LP Tryz.prog Tryz.f111.ntmps:=cq (r7 n) [altL (JU n) (Hm n) rfl] 2 (sb (sb (sb (sb (acM [] [3,17,20,23,30] Tryz.f111) 0).body 1).body 1017) 2) false ⟨[(3,.p 2 0),(4,.p 3 0),(5,.p 4 0),(6,.p 5 0),(8,.i .i64),(9,.ws 0),(10,.ws 1),(11,.fn 173 [.p 4 0]),(12,.i .i64),(15,.i .i64),(16,.b),(17,.i .i64),(53,.ws 0),(54,.i .i64),(55,.i .i64),(94,.ws 1),(95,.i .i64),(96,.i .i64)],q18,62,2,2,2⟩ [] [⟨.ret,q129⟩,⟨.exit 4,q39⟩] (bL n) n
def NB (n:Nat):LP Tryz.prog Tryz.f111.ntmps:=fp (r7 n) [altL (MG n) (Hy n) rfl,altL (NA n) (G7 n) rfl,altL (Q6 n) (MB n) rfl] 1017 (sb (sb (sb (acM [] [3,17,20,23,30] Tryz.f111) 0).body 1).body 1017) false q36 [⟨.nrm,q36⟩,⟨.ret,q128⟩] (ln n)
def Gh (n:Nat):LP Tryz.prog Tryz.f111.ntmps:=fp (r7 n) [altL (MG n) (Hy n) rfl,altL (NA n) (G7 n) rfl,altL (Q6 n) (MB n) rfl] 1017 (sb (sb (sb (acM [] [3,17,20,23,30] Tryz.f111) 0).body 1).body 1017) false q39 [⟨.nrm,q39⟩,⟨.ret,q129⟩] (io n)
def QG (n:Nat):LP Tryz.prog Tryz.f111.ntmps:=cq (r7 n) [altL (NB n) (Gh n) rfl] 1 (sb (sb (acM [] [3,17,20,23,30] Tryz.f111) 0).body 1) false q36 [] [⟨.ret,q128⟩,⟨.exit 2,⟨[(3,.p 2 0),(4,.p 3 0),(5,.p 4 0),(6,.p 5 0),(8,.i .i64),(9,.ws 62),(10,.ws 63),(11,.fn 173 [.p 4 0]),(12,.i .i64)],q15,64,2,2,2⟩⟩] (mr n) n
def JQ (n:Nat):LP Tryz.prog Tryz.f111.ntmps:=cq (r7 n) [altL (NB n) (Gh n) rfl] 1 (sb (sb (acM [] [3,17,20,23,30] Tryz.f111) 0).body 1) false q39 [] [⟨.ret,q129⟩,⟨.exit 2,⟨[(3,.p 2 0),(4,.p 3 0),(5,.p 4 0),(6,.p 5 0),(8,.i .i64),(9,.ws 0),(10,.ws 1),(11,.fn 173 [.p 4 0]),(12,.i .i64)],q18,62,2,2,2⟩⟩] (ck n) n
def WE (n:Nat):LP Tryz.prog Tryz.f111.ntmps:=cq (r7 n) [altL (QG n) (JQ n) rfl] 0 (sb (acM [] [3,17,20,23,30] Tryz.f111) 0) false ⟨[(3,.p 2 0),(4,.p 3 0),(5,.p 4 0),(6,.p 5 0),(8,.i .i64),(9,.ws 62),(10,.ws 63),(11,.fn 173 [.p 4 0]),(12,.i .i64),(13,.b)],q15,64,2,2,2⟩ [] [⟨.ret,q128⟩,⟨.exit 0,⟨[(6,.p 5 0)],q49,64,2,2,2⟩⟩] (mh n) n
def SX (n:Nat):LP Tryz.prog Tryz.f111.ntmps:=cq (r7 n) [altL (QG n) (JQ n) rfl] 0 (sb (acM [] [3,17,20,23,30] Tryz.f111) 0) false ⟨[(3,.p 2 0),(4,.p 3 0),(5,.p 4 0),(6,.p 5 0),(8,.i .i64),(9,.ws 0),(10,.ws 1),(11,.fn 173 [.p 4 0]),(12,.i .i64),(13,.b)],q18,62,2,2,2⟩ [] [⟨.ret,q129⟩,⟨.exit 0,⟨[(6,.p 5 0)],q49,62,2,2,2⟩⟩] (cY n) n
def c111 (n:Nat):FF Tryz.prog 111 [.ag q37,.ag [.i .i64,.i .i64,.i .i64],.b] q115 2 2 [⟨.tp [.ag [.i .i64,.i .i64,.i .i64],.b],[],[],false⟩]:=funC Tryz.func111 Tryz.call111 (r7 n) [UU n,altL (WE n) (SX n) rfl] [] [3,17,20,23,30] [0,1] (jc n)
def c60 (n:Nat):PF Tryz.prog 60 q88 (.i .i64):=aK Tryz.func60 Tryz.call60 [(c55 n).e,(c110 n).e,(c111 n).e] [] [] [] (bq n)
def c195 (n:Nat):FF Tryz.prog 195 [.p 0 0] q90 0 1 [⟨.it 197 (.ag [.i .i64,.i .i64]),q54,[],true⟩,⟨.tp [.ag q21,.i .i64],q54,[],false⟩]:=funC Tryz.func195 Tryz.call195 [(c250 n).e,(c60 n).e,(c193 n).e] [] [] [] [0] (iG n)
def Ui (n:Nat):List (FE Tryz.prog):=[(c131 n).e,(c190 n).e,(c194 n).e,(c193 n).e]
def WZ (n:Nat):LP Tryz.prog Tryz.f133.ntmps:=cq (Ui n) [] 0 (sb (acM [] [] Tryz.f133) 0) false ⟨[(0,.p 0 0),(1,.s),(4,.i .i64),(5,.s)],q54,1,1,0,1⟩ [] [⟨.exit 0,⟨[(0,.p 0 0),(4,.i .i64)],q54,1,1,0,1⟩⟩] (ec n) n
def c133 (n:Nat):FF Tryz.prog 133 [.p 0 0,.s] q90 0 1 [⟨.tp [],q54,[],false⟩,⟨.it 197 (.ag [.i .i64,.i .i64]),q54,[],true⟩]:=funC Tryz.func133 Tryz.call133 (Ui n) [WZ n] [] [] [0] (ca n)
def c197 (n:Nat):FF Tryz.prog 197 [.ws 0] q72 1 1 [⟨.rs 21 0 0 .q (some .q),[],[],false⟩]:=funC Tryz.func197 Tryz.call197 [] [] [] [] [0] (bG n)
def c160 (n:Nat):FF Tryz.prog 160 [.ag q19] q72 1 1 [⟨.b,[],[],false⟩]:=funC Tryz.func160 Tryz.call160 [] [] [] [] [0] (ou n)
def c53 (n:Nat):PF Tryz.prog 53 q88 (.b):=aK Tryz.func53 Tryz.call53 [(c97 n).e] [] [] [] (eV n)
def c61 (n:Nat):PF Tryz.prog 61 q88 (.b):=aK Tryz.func61 Tryz.call61 [(c53 n).e] [] [] [] (mq n)
def c199 (n:Nat):PF Tryz.prog 199 [.ag q42] (.i .i64):=aK Tryz.func199 Tryz.call199 [(c60 n).e,(c61 n).e] [] [] [] (ig n)
def c64 (n:Nat):FF Tryz.prog 64 [] [] 0 0 [⟨.mp 0,[(0,.mp .u8 [(0,116),(1,118),(2,122),(3,125)])],[0],false⟩]:=funC Tryz.func64 Tryz.call64 [] [] [] [] [] (jl n)
def c65 (n:Nat):PF Tryz.prog 65 q88 (.i .u8):=aK Tryz.func65 Tryz.call65 [(c51 n).e] [] [] [] (bh n)
def c116 (n:Nat):FF Tryz.prog 116 [.i .i64,.ws 0] q98 1 1 [⟨.ag q65,[],[],false⟩]:=funC Tryz.func116 Tryz.call116 [(c117 n).e] [] [] [] [0] (gG n)
def c120 (n:Nat):PF Tryz.prog 120 [.i .i64] (.tp [.i .i64,.i .i64]):=aK Tryz.func120 Tryz.call120 [(c184 n).e,(c185 n).e] [] [] [] (tM n)
def c186 (n:Nat):PF Tryz.prog 186 [.i .i64] (.ag [.i .i8,.i .i64]):=aK Tryz.func186 Tryz.call186 [] [] [] [] (EB n)
def c121 (n:Nat):PF Tryz.prog 121 [.i .i64,.i .i64] (.ag q65):=aK Tryz.func121 Tryz.call121 [(c186 n).e] [] [] [] (rQ n)
def c118 (n:Nat):FF Tryz.prog 118 [.i .i64,.ws 0] q98 1 1 [⟨.ag q65,[],[],false⟩]:=funC Tryz.func118 Tryz.call118 [(c119 n).e,(c120 n).e,(c121 n).e] [] [] [] [0] (gz n)
def c122 (n:Nat):FF Tryz.prog 122 [.i .i64,.ws 0] q98 1 1 [⟨.ag q65,[],[],false⟩]:=funC Tryz.func122 Tryz.call122 [(c123 n).e,(c124 n).e,(c121 n).e] [] [] [] [0] (gp n)
def c189 (n:Nat):PF Tryz.prog 189 [.ag [.i .i64,.i .i64,.i .i64]] (.i .i64):=aK Tryz.func189 Tryz.call189 [(c204 n).e] [] [] [] (qS n)
def c126 (n:Nat):PF Tryz.prog 126 [.ag [.i .i64,.i .i64,.i .i64]] (.tp [.i .i64,.i .i64]):=aK Tryz.func126 Tryz.call126 [(c189 n).e,(c123 n).e] [] [] [] (rS n)
def c125 (n:Nat):FF Tryz.prog 125 [.i .i64,.ws 0] q98 1 1 [⟨.ag q65,[],[],false⟩]:=funC Tryz.func125 Tryz.call125 [(c126 n).e,(c121 n).e] [] [] [] [0] (gn n)
def c23 (n:Nat):PF Tryz.prog 23 q88 (.tp [.ag q65,.i .i64]):=aK Tryz.func23 Tryz.call23 [(c60 n).e,(c61 n).e,(c62 n).e,(c63 n),(c64 n).e,(c65 n).e,(c116 n).e,(c118 n).e,(c122 n).e,(c125 n).e] [] [] [] (gm n)
def c136 (n:Nat):PF Tryz.prog 136 [.i .i8] (.b):=aK Tryz.func136 Tryz.call136 [] [] [] [] (oy n)
def c69 (n:Nat):PF Tryz.prog 69 [.i .i8,.i .i8] (.i .i64):=aK Tryz.func69 Tryz.call69 [(c136 n).e] [] [] [] (mI n)
def c137 (n:Nat):PF Tryz.prog 137 [.i .i64] (.b):=aK Tryz.func137 Tryz.call137 [] [] [] [] (lj n)
def c70 (n:Nat):PF Tryz.prog 70 [.i .i64,.i .i64] (.i .i64):=aK Tryz.func70 Tryz.call70 [(c137 n).e] [] [] [] (jw n)
def Yk (n:Nat):LP Tryz.prog Tryz.f68.ntmps:=cq [] [] 0 (sb (acM [] [] Tryz.f68) 0) false ⟨[(3,.i .i64),(6,.ws 0),(7,.i .i64),(8,.i .i64)],q81,1,1,1,1⟩ [] [⟨.ret,⟨[(2,.i .i64)],[],1,1,1,1⟩⟩,⟨.exit 0,⟨[(3,.i .i64)],[],1,1,1,1⟩⟩] (tL n) n
def c68 (n:Nat):FF Tryz.prog 68 [.ws 0] q98 1 1 [⟨.i .i64,[],[],false⟩]:=funC Tryz.func68 Tryz.call68 [] [Yk n] [] [] [0] (oL n)
def c25 (n:Nat):PF Tryz.prog 25 [.ag [.i .i8,.i .i64],.ag [.i .i8,.i .i64]] (.i .i64):=aK Tryz.func25 Tryz.call25 [(c69 n).e,(c70 n).e,(c68 n).e] [] [] [] (kG n)
def c161 (n:Nat):PF Tryz.prog 161 [.ag q42,.ag q42] (.i .i64):=aK Tryz.func161 Tryz.call161 [(c199 n).e,(c23 n).e,(c25 n).e] [] [0] [] (iy n)
def c264 (n:Nat):FF Tryz.prog 264 [.p 0 0] [.cells q20] 1 1 [⟨.b,[],[],false⟩]:=funC Tryz.func264 Tryz.call264 [] [] [] [] [0] (rk n)
def c268 (n:Nat):PF Tryz.prog 268 [.ag q33] (.b):=aK Tryz.func268 Tryz.call268 [(c53 n).e] [] [] [] (nO n)
def c269 (n:Nat):PF Tryz.prog 269 [.ag q33] (.b):=aK Tryz.func269 Tryz.call269 [(c60 n).e,(c268 n).e,(c65 n).e] [] [] [] (lO n)
def c266 (n:Nat):PF Tryz.prog 266 [.ag q33,.ag q33] (.b):=aK Tryz.func266 Tryz.call266 [(c269 n).e,(c65 n).e,(c23 n).e,(c25 n).e] [] [] [] (ng n)
def c265 (n:Nat):FF Tryz.prog 265 [.p 0 0] [.cells q20] 1 1 [⟨.b,[],[],false⟩]:=funC Tryz.func265 Tryz.call265 [(c266 n).e] [] [] [] [0] (re n)
def c267 (n:Nat):FF Tryz.prog 267 q117 [.cells [.i .u8],.cells q20] 2 2 [⟨.b,[],[],false⟩]:=funC Tryz.func267 Tryz.call267 [(c268 n).e] [] [] [] [0,1] (qJ n)
def c216 (n:Nat):FF Tryz.prog 216 [.sl 0 0 3 (some (.k 3))] [.cells [.i .i64,.fn 264 [.p 1 0],.i .i64,.fn 265 [.p 1 0],.i .i64,.fn 267 [.p 2 0,.p 1 0]],.cells q20,.cells [.i .u8]] 3 3 [⟨.i .i64,[],[],false⟩]:=funC Tryz.func216 Tryz.call216 [(c264 n).e,(c265 n).e,(c267 n).e] [] [0] [] [0,1,2] (ew n)
def c217 (n:Nat):PF Tryz.prog 217 [.ag q20,.i .u8] (.i .i64):=aK Tryz.func217 Tryz.call217 [(c60 n).e,(c216 n).e] [] [] [] (fH n)
def c218 (n:Nat):FF Tryz.prog 218 q117 [.cells q20,.cells q57,.rows q11] 3 3 [⟨.b,[],[],false⟩]:=funC Tryz.func218 Tryz.call218 [(c217 n).e] [] [] [] [0,1,2] (qt n)
def c220 (n:Nat):PF Tryz.prog 220 [.ag q20] (.b):=aK Tryz.func220 Tryz.call220 [(c269 n).e] [] [] [] (nS n)
def c219 (n:Nat):FF Tryz.prog 219 [.p 0 0,.p 1 0,.p 2 0] [.cells [.i .u8,.bd,.b,.s,.i .i64,.i .i64,.s,.s,.i .u8,.i .u8,.i .u8,.i .u8,.bd,.b,.s,.i .i64,.i .i64,.s,.s,.i .u8,.i .u8,.i .u8,.i .u8,.bd,.b,.s,.i .i64,.i .i64,.s,.s,.i .u8,.i .u8,.i .u8,.rs 21 3 0 .q (some .q),.b,.b],.cells [.i .i64],.cells q20,.rows q11] 4 4 [⟨.b,[],[],false⟩]:=funC Tryz.func219 Tryz.call219 [(c220 n).e] [] [] [] [0,1,2,3] (rc n)
def c221 (n:Nat):FF Tryz.prog 221 [.p 0 0,.p 1 0,.p 2 0,.p 3 0] [.cells [.i .u8,.bd,.b,.s,.i .i64,.i .i64,.s,.s,.i .u8,.i .u8,.i .u8,.i .u8,.bd,.b,.s,.i .i64,.i .i64,.s,.s,.i .u8,.i .u8,.i .u8,.i .u8,.bd,.b,.s,.i .i64,.i .i64,.s,.s,.i .u8,.i .u8,.i .u8,.rs 21 4 0 .q (some .q),.b,.b],.cells [.i .i64],.cells [.i .i64],.cells q20,.rows q11] 5 5 [⟨.b,[],[],false⟩]:=funC Tryz.func221 Tryz.call221 [(c220 n).e] [] [] [] [0,1,2,3,4] (qH n)
def c222 (n:Nat):FF Tryz.prog 222 q117 [.cells q57,.cells [.i .i64],.rows q11] 3 3 [⟨.b,[],[],false⟩]:=funC Tryz.func222 Tryz.call222 [] [] [] [] [0,1,2] (qo n)
def V6 (n:Nat):FF Tryz.prog 216 [.sl 0 0 4 (some (.k 4))] [.cells q71,.cells q20,.cells [.i .u8,.bd,.b,.s,.i .i64,.i .i64,.s,.s,.i .u8,.i .u8,.i .u8,.i .u8,.bd,.b,.s,.i .i64,.i .i64,.s,.s,.i .u8,.i .u8,.i .u8,.i .u8,.bd,.b,.s,.i .i64,.i .i64,.s,.s,.i .u8,.i .u8,.i .u8,.rs 21 5 0 .q (some .q),.b,.b],.cells [.i .i64],.cells [.i .i64],.rows q11] 6 6 [⟨.i .i64,[],[],false⟩]:=funC Tryz.func216 Tryz.call216 [(c218 n).e,(c219 n).e,(c221 n).e,(c222 n).e] [] [0] [] [0,1,2,3,4,5] (mG n)
def V7 (n:Nat):List (FE Tryz.prog):=[(c217 n).e,(V6 n).e]
def UE (n:Nat):LP Tryz.prog Tryz.f162.ntmps:=cq (V7 n) [] 0 (sb (acM [] [] Tryz.f162) 0) true ⟨[(1,.p 1 0),(4,.p 2 0),(13,.rs 21 0 0 .q (some .q)),(14,.i .i64),(15,.i .i64)],[(0,.rows q11),(1,.cells q19),(2,.cells [.i .i64])],3,1,1,1⟩ [] q73 (km n) n
def c162 (n:Nat):FF Tryz.prog 162 [.ag q19] q72 1 1 [⟨.tp [.i .i64,.i .i64],[],[],false⟩]:=funC Tryz.func162 Tryz.call162 (V7 n) [UE n] [] [] [0] (mS n)
def c94 (n:Nat):FF Tryz.prog 94 [.ag q19] q72 1 1 [⟨.tp [.i .i64,.i .i64],[],[],false⟩]:=funC Tryz.func94 Tryz.call94 [(c160 n).e,(c60 n).e,(c161 n).e,(c162 n).e] [] [] [] [0] (gf n)
def JX (n:Nat):List (FE Tryz.prog):=[(c191 n).e,(c192 n).e,(c131 n).e,(c194 n).e,(c193 n).e,(c195 n).e,(c196 n).e,(c133 n).e,(c197 n).e,(c94 n).e]
def WV (n:Nat):LP Tryz.prog Tryz.f129.ntmps:=fp (JX n) [] 1003 (sb (acM [] [3,16,17] Tryz.f129) 1003) true ⟨[(0,.p 0 0),(2,.p 1 0),(3,.p 2 0),(15,.b)],[(0,.cells q30),(1,.cells q14),(2,.cells [.ik .u8 3,.bk false,.bk false,.sk [],.ik .i64 0,.ik .i64 0,.sk [],.sk [],.ik .u8 0,.ik .u8 0,.ik .u8 0,.ik .u8 0,.bk false,.bk false,.sk [],.ik .i64 0,.ik .i64 0,.sk [],.sk [],.ik .u8 0,.ik .u8 0,.ik .u8 0,.ik .u8 0,.bk false,.bk false,.sk [],.ik .i64 0,.ik .i64 0,.sk [],.sk [],.ik .u8 0,.ik .u8 0,.ik .u8 0,.ws 4,.bk false,.bk false]),(3,.rows q11),(4,.rows q11)],5,1,0,1⟩ [⟨.nrm,⟨[(0,.p 0 0),(2,.p 1 0),(3,.p 2 0)],[(0,.cells q30),(1,.cells q14),(2,.cells [.i .u8,.bk false,.bk false,.sk [],.ik .i64 0,.ik .i64 0,.sk [],.sk [],.ik .u8 0,.ik .u8 0,.ik .u8 0,.ik .u8 0,.bk false,.bk false,.sk [],.ik .i64 0,.ik .i64 0,.sk [],.sk [],.ik .u8 0,.ik .u8 0,.ik .u8 0,.ik .u8 0,.bk false,.bk false,.sk [],.ik .i64 0,.ik .i64 0,.sk [],.sk [],.ik .u8 0,.ik .u8 0,.ik .u8 0,.ws 4,.bk false,.bk false]),(3,.rows q11),(4,.rows q11)],5,1,0,1⟩⟩] (m8 n)
def SG (n:Nat):LP Tryz.prog Tryz.f129.ntmps:=fp (JX n) [] 1016 (sb (sb (acM [] [3,16,17] Tryz.f129) 0).body 1016) true ⟨q104,q35,7,1,0,1⟩ [⟨.nrm,q92⟩] (l8 n)
def Tq (n:Nat):LP Tryz.prog Tryz.f129.ntmps:=fp (JX n) [] 1017 (sb (sb (acM [] [3,16,17] Tryz.f129) 0).body 1017) true q92 [⟨.pan (.it 197 (.ag [.i .i64,.i .i64])),⟨[],q54,1,1,0,1⟩⟩,⟨.nrm,⟨q104,[(0,.cells q30),(1,.cells q22),(2,.cells q27),(3,.rows [.i .i64]),(4,.cells q20),(5,.rows q11),(6,.rows q11)],7,1,0,1⟩⟩] (lX n)
def Xn (n:Nat):LP Tryz.prog Tryz.f129.ntmps:=cq (JX n) [SG n,Tq n] 0 (sb (acM [] [3,16,17] Tryz.f129) 0) true ⟨q124,[(0,.cells q30),(1,.cells q23),(2,.cells q47),(3,.rows [.i .i64]),(4,.rows q11),(5,.rows q11)],6,1,0,1⟩ [.nilT 6 1000 [.i .i64]] [⟨.pan (.it 197 (.ag [.i .i64,.i .i64])),⟨[],q54,1,1,0,1⟩⟩,⟨.exit 0,⟨q124,[(0,.cells q30),(1,.cells q63),(2,.cells q43),(3,.rows [.i .i64]),(4,.rows q11),(5,.rows q11)],6,1,0,1⟩⟩] (fi n) n
def c129 (n:Nat):FF Tryz.prog 129 [.p 0 0] q90 0 1 [⟨.it 197 (.ag [.i .i64,.i .i64]),q54,[],true⟩,⟨.ag [.i .u8,.bd,.b,.s,.i .i64,.i .i64,.s,.s,.i .u8,.i .u8,.i .u8,.i .u8,.bd,.b,.s,.i .i64,.i .i64,.s,.s,.i .u8,.i .u8,.i .u8,.i .u8,.bd,.b,.s,.i .i64,.i .i64,.s,.s,.i .u8,.i .u8,.i .u8,.rs 21 1 0 .q (some .q),.b,.b],[(0,.cells q30),(1,.rows q11)],[1],false⟩]:=funC Tryz.func129 Tryz.call129 (JX n) [WV n,Xn n] [] [3,16,17] [0] (np n)
def c130 (n:Nat):FF Tryz.prog 130 [.p 2 0,.i .i64] [.cells q30,.rows q11,.cells q55] 2 3 [⟨.tp [],[(2,.cells q55)],[],false⟩]:=funC Tryz.func130 Tryz.call130 [] [] [] [] [2,0,1] (fV n)
def Qw (n:Nat):FF Tryz.prog 130 [.p 2 0,.i .i64] [.cells q30,.rows q11,.cells q58] 2 3 [⟨.tp [],[(2,.cells q58)],[],false⟩]:=funC Tryz.func130 Tryz.call130 [] [] [] [] [2,0,1] (cT n)
def NU (_n:Nat):Ent:=Q1 252
theorem Is (n:Nat):fF Tryz.prog (NU n):=LE Tryz.call252 λs c w h1 h2 h3=>Tryz.strings_TrimRight_laid s c w h1 h2 h3
def c252 (n:Nat):FE Tryz.prog:=libF (Is n)
def UG (n:Nat):PF Tryz.prog 295 [.s,.sk [45]] (.b):=aK Tryz.func295 Tryz.call295 [] [] [] [] (fc n)
def c296 (n:Nat):PF Tryz.prog 296 [.s,.sk [45]] (.s):=aK Tryz.func296 Tryz.call296 [(UG n).e] [] [] [] (fW n)
def c253 (n:Nat):PF Tryz.prog 253 [.s,.sk [45]] (.s):=aK Tryz.func253 Tryz.call253 [(c296 n).e] [] [] [] (jg n)
end
end Go.Sh
