/- Each function of the program computes its plain function: the certificates.
   Conditions: none. Printed by the bench tool gen.py. -/
import Derived.Test.YtlampgohpnchdaaGreatDoorShE
import Derived.Test.YtlampgohpnchdaaGreatDoorProg
import Derived.Test.YtlampgohpnchdaaGreatDoorAbsX
import Derived.Test.YtlampgohpnchdaaGreatDoorAbsU
import Derived.Test.YtlampgohpnchdaaGreatDoorAbsW
import Derived.KernelRfl
import Derived.Test.YtlampgohpnchdaaGreatDoorAbsPat
import Derived.Test.YtlampgohpnchdaaGreatDoorShelf
import Derived.Test.YtlampgohpnchdaaGreatDoorHGa
import Derived.Test.YtlampgohpnchdaaGreatDoorHGb
import Derived.Test.YtlampgohpnchdaaGreatDoorHGe
import Derived.Test.YtlampgohpnchdaaGreatDoorHGm
import Derived.Test.YtlampgohpnchdaaGreatDoorHGs
set_option linter.unusedVariables false
set_option linter.unusedSimpArgs false
set_option maxRecDepth 100000
set_option maxHeartbeats 4000000
namespace Go.Sh
open Go.Abs Go.Proofs
noncomputable section
abbrev q41:List PV:=[.i .i64,.i .i64]
abbrev q32:List PV:=[.b,.b,.s,.i .i64,.i .i64]
abbrev q46:List PV:=[.i .u8,.b,.i .u16,.i .u8,.i .u8,.i .u8,.i .u8,.i .u8,.i .u8,.i .u8]
abbrev q23:List PV:=[.b,.b,.s,.i .i64,.i .i64,.s,.s,.i .u8,.i .u8,.i .u8]
abbrev q80:PSt:=⟨[(2,.i .i64)],[],1,0,0,0⟩
abbrev q42:List PV:=[.i .u8,.b,.b,.s,.i .i64,.i .i64,.s,.s,.i .u8,.i .u8,.i .u8]
abbrev q97:PSt:=⟨[(0,.s),(1,.i .i64),(5,.i .i64)],[],0,0,0,0⟩
abbrev q76:List (Nat×PV):=[(4,.i .i64)]
abbrev q90:List PX:=[⟨.ret,⟨q76,[],1,0,0,0⟩⟩,⟨.exit 0,⟨[],[],1,0,0,0⟩⟩]
abbrev q83:List (Nat×PB):=[(0,.cells q32)]
abbrev q66:List (Nat×PB):=[(0,.rows [.i .i64])]
abbrev q60:List (Nat×PB):=[(0,.cells q23),(1,.rows [.i .i64]),(2,.rows [.i .i64,.i .i64,.i .i64])]
abbrev q81:PSt:=⟨[(1,.i .i64),(2,.p 0 0),(5,.ws 2),(6,.ws 1),(7,.i .i64)],q60,3,0,0,0⟩
abbrev q64:PSt:=⟨[(0,.i .i64),(4,.i .i64),(5,.b)],[],0,0,0,0⟩
abbrev q65:PSt:=⟨[(0,.i .i64),(4,.i .i64),(9,.b)],[],0,0,0,0⟩
abbrev q62:PSt:=⟨[(0,.i .i64),(4,.i .i64),(13,.b)],[],0,0,0,0⟩
abbrev q63:PSt:=⟨[(0,.i .i64),(4,.i .i64),(17,.b)],[],0,0,0,0⟩
abbrev q50:PSt:=⟨[(0,.i .i64),(4,.i .i64),(21,.b)],[],0,0,0,0⟩
abbrev q91:PSt:=⟨[(0,.i .i64),(4,.i .i64),(30,.b)],[],0,0,0,0⟩
abbrev q99:List PX:=[⟨.nrm,⟨[(0,.i .i64),(30,.b)],[],0,0,0,0⟩⟩]
abbrev q67:PSt:=⟨[(0,.i .i64),(1,.i .i64),(5,.i .i64),(6,.i .i64)],[],0,0,0,0⟩
abbrev q79:List PX:=[⟨.exit 0,⟨[(5,.i .i64)],[],0,0,0,0⟩⟩]
abbrev q38:List PV:=[.bd,.b,.s,.i .i64,.i .i64,.s,.s,.i .u8,.i .u8,.i .u8]
abbrev q24:List PV:=[.bd,.b,.s,.i .i64,.i .i64,.s,.s,.i .u8,.i .u8,.i .u8,.b,.bd,.b,.s,.i .i64,.i .i64,.s,.s,.i .u8,.i .u8,.i .u8]
abbrev q13:List Lf:=[.i .u8,.bo,.i .u16,.i .u8,.i .u8,.i .u8,.i .u8,.i .u8,.i .u8,.i .u8,.i .u8,.i .u8,.bo,.i .u16,.i .u8,.i .u8,.i .u8,.i .u8,.i .u8,.i .u8,.i .u8]
abbrev q58:List PV:=[.i .u8,.ws 0,.i .u8,.i .u8,.i .u8]
abbrev q16:List PV:=[.ik .u8 0,.bk false,.bk false,.sk [],.ik .i64 0,.ik .i64 0,.sk [],.sk [],.ik .u8 0,.ik .u8 0,.ik .u8 0,.ik .u8 0,.bk false,.bk false,.sk [],.ik .i64 0,.ik .i64 0,.sk [],.sk [],.ik .u8 0,.ik .u8 0,.ik .u8 0,.ik .u8 0,.bk false,.bk false,.sk [],.ik .i64 0,.ik .i64 0,.sk [],.sk [],.ik .u8 0,.ik .u8 0,.ik .u8 0,.ws 3,.bk false,.bk false]
abbrev q12:List Lf:=[.bo,.bo,.s,.i .i64,.i .i64,.s,.s,.i .u8,.i .u8,.i .u8,.bo,.bo,.bo,.s,.i .i64,.i .i64,.s,.s,.i .u8,.i .u8,.i .u8]
abbrev q29:List (Nat×PB):=[(0,.rows q13),(1,.cells q58),(2,.cells q16),(3,.rows q12)]
abbrev q14:List PV:=[.ik .u8 0,.bk false,.bk false,.sk [],.ik .i64 0,.ik .i64 0,.sk [],.sk [],.ik .u8 0,.ik .u8 0,.ik .u8 0,.ik .u8 0,.bk false,.bk false,.sk [],.ik .i64 0,.ik .i64 0,.sk [],.sk [],.ik .u8 0,.ik .u8 0,.ik .u8 0,.ik .u8 0,.bk false,.bk false,.sk [],.ik .i64 0,.ik .i64 0,.sk [],.sk [],.ik .u8 0,.ik .u8 0,.ik .u8 0,.ws 4,.bk false,.bk false]
abbrev q30:List (Nat×PB):=[(0,.rows q13),(1,.cells q58),(2,.cells q14),(3,.rows q13),(4,.rows q12)]
abbrev q48:PSt:=⟨[(1,.p 1 0),(2,.p 2 0),(3,.rs 21 3 0 .q none),(23,.i .u8),(24,.b)],q30,5,1,1,1⟩
abbrev q49:PSt:=⟨[(1,.p 1 0),(2,.p 2 0),(3,.rs 21 0 0 .q none),(23,.i .u8),(24,.b)],q29,4,1,1,1⟩
abbrev q27:List PV:=[.i .u8,.bd,.b,.s,.i .i64,.i .i64,.s,.s,.i .u8,.i .u8,.i .u8]
abbrev q37:List (Nat×PB):=[(1,.cells [.ik .u8 0,.bk false,.bk false,.sk [],.ik .i64 0,.ik .i64 0,.sk [],.sk [],.ik .u8 0,.ik .u8 0,.ik .u8 0,.ik .u8 0,.bk false,.bk false,.sk [],.ik .i64 0,.ik .i64 0,.sk [],.sk [],.ik .u8 0,.ik .u8 0,.ik .u8 0,.ik .u8 0,.bk false,.bk false,.sk [],.ik .i64 0,.ik .i64 0,.sk [],.sk [],.ik .u8 0,.ik .u8 0,.ik .u8 0,.ws 5,.bk false,.bk false]),(2,.rows q13),(3,.cells q27),(4,.cells q27),(5,.rows q12)]
abbrev q43:List PX:=[⟨.nrm,⟨[(2,.p 1 0),(4,.p 2 0),(5,.p 3 0)],[(1,.cells q14),(2,.cells q27),(3,.cells q27),(4,.rows q12)],5,1,1,1⟩⟩]
abbrev q77:List (Nat×PB):=[(0,.rows q13),(1,.cells q14),(2,.cells q27),(3,.cells q27),(4,.rows q12)]
abbrev q92:List (Nat×PV):=[(2,.p 1 0),(3,.rs 21 2 0 .q none),(6,.p 3 0)]
abbrev q39:List (Nat×PB):=[(1,.cells q14),(2,.rows q13),(3,.cells [.i .u8,.bk false,.bk false,.sk [],.ik .i64 0,.ik .i64 0,.sk [],.sk [],.ik .u8 0,.ik .u8 0,.ik .u8 0,.ik .u8 0,.bk false,.bk false,.sk [],.ik .i64 0,.ik .i64 0,.sk [],.sk [],.ik .u8 0,.ik .u8 0,.ik .u8 0,.ik .u8 0,.bk false,.bk false,.sk [],.ik .i64 0,.ik .i64 0,.sk [],.sk [],.ik .u8 0,.ik .u8 0,.ik .u8 0,.ws 5,.b,.b]),(4,.rows q12),(5,.rows q12)]
abbrev q93:List (Nat×PV):=[(2,.p 1 0),(3,.rs 21 0 0 .q none),(6,.p 2 0)]
abbrev q40:List (Nat×PB):=[(0,.rows q13),(1,.cells q16),(2,.cells [.i .u8,.bk false,.bk false,.sk [],.ik .i64 0,.ik .i64 0,.sk [],.sk [],.ik .u8 0,.ik .u8 0,.ik .u8 0,.ik .u8 0,.bk false,.bk false,.sk [],.ik .i64 0,.ik .i64 0,.sk [],.sk [],.ik .u8 0,.ik .u8 0,.ik .u8 0,.ik .u8 0,.bk false,.bk false,.sk [],.ik .i64 0,.ik .i64 0,.sk [],.sk [],.ik .u8 0,.ik .u8 0,.ik .u8 0,.ws 4,.b,.b]),(3,.rows q12),(4,.rows q12)]
abbrev q18:List PV:=[.i .u8,.bd,.b,.s,.i .i64,.i .i64,.s,.s,.i .u8,.i .u8,.i .u8,.i .u8,.bd,.b,.s,.i .i64,.i .i64,.s,.s,.i .u8,.i .u8,.i .u8,.i .u8,.bd,.b,.s,.i .i64,.i .i64,.s,.s,.i .u8,.i .u8,.i .u8,.ws 4,.b,.b]
abbrev q26:List PV:=[.i .u8,.bd,.b,.s,.i .i64,.i .i64,.s,.s,.i .u8,.i .u8,.i .u8,.i .u8,.bd,.b,.s,.i .i64,.i .i64,.s,.s,.i .u8,.i .u8,.i .u8,.i .u8,.bd,.b,.s,.i .i64,.i .i64,.s,.s,.i .u8,.i .u8,.i .u8,.ws 5,.b,.b]
abbrev q52:List (Nat×PB):=[(1,.cells q18),(2,.rows q13),(3,.cells q26),(4,.rows q12),(5,.rows q12)]
abbrev q21:List PV:=[.i .u8,.bd,.b,.s,.i .i64,.i .i64,.s,.s,.i .u8,.i .u8,.i .u8,.i .u8,.bd,.b,.s,.i .i64,.i .i64,.s,.s,.i .u8,.i .u8,.i .u8,.i .u8,.bd,.b,.s,.i .i64,.i .i64,.s,.s,.i .u8,.i .u8,.i .u8,.ws 3,.b,.b]
abbrev q53:List (Nat×PB):=[(0,.rows q13),(1,.cells q21),(2,.cells q18),(3,.rows q12),(4,.rows q12)]
abbrev q45:List (Nat×PB):=[(1,.cells q21),(2,.cells q18),(3,.rows q12),(4,.rows q12)]
abbrev q72:PSt:=⟨[(2,.p 1 0),(6,.p 2 0),(8,.i .i64)],q45,5,1,1,1⟩
abbrev q94:PSt:=⟨[(2,.p 1 0),(6,.p 2 0),(139,.b)],q45,5,1,1,1⟩
abbrev q28:List PV:=[.i .u8,.bd,.b,.s,.i .i64,.i .i64,.s,.s,.i .u8,.i .u8,.i .u8,.i .u8,.bd,.b,.s,.i .i64,.i .i64,.s,.s,.i .u8,.i .u8,.i .u8,.i .u8,.bd,.b,.s,.i .i64,.i .i64,.s,.s,.i .u8,.i .u8,.i .u8,.ws 1,.b,.b]
abbrev q51:List PV:=[.s,.i .i64,.i .i64]
abbrev q47:List (Nat×PB):=[(0,.ints .u8 3),(1,.ints .u8 3),(2,.ints .u8 3),(3,.ints .u8 3)]
abbrev q74:PSt:=⟨[(2,.i .i64),(3,.p 0 0),(4,.p 1 0),(6,.p 2 0),(7,.p 3 0),(8,.i .u8)],q47,4,0,0,0⟩
abbrev q73:List PV:=[.bk false,.bk false,.sk [],.ik .i64 0,.ik .i64 0,.sk [],.sk [],.ik .u8 0,.ik .u8 0,.ik .u8 0]
abbrev q20:List (Nat×PB):=[(0,.cells q73),(1,.ints .i64 3),(2,.cells [.sk [],.ik .i64 0,.ik .i64 0]),(3,.cells [.b,.b,.s,.i .i64,.i .i64,.s,.s,.ik .u8 0,.ik .u8 0,.ik .u8 0]),(4,.ints .i64 3),(5,.ints .u8 3),(6,.ints .u8 3),(7,.cells q51)]
abbrev q31:PSt:=⟨[(0,.s),(4,.p 0 0),(5,.p 1 0),(6,.p 2 0),(7,.p 3 0),(8,.p 4 0),(9,.p 5 0),(10,.p 6 0),(11,.p 7 0),(12,.i .i64),(13,.i .i64)],q20,8,0,0,0⟩
abbrev q71:List (Nat×PV):=[(4,.p 0 0),(5,.p 1 0),(6,.p 2 0),(7,.p 3 0),(8,.p 4 0),(9,.p 5 0),(10,.p 6 0),(11,.p 7 0),(12,.i .i64)]
abbrev q15:List PV:=[.i .u8,.bd,.b,.s,.i .i64,.i .i64,.s,.s,.i .u8,.i .u8,.i .u8,.i .u8,.bd,.b,.s,.i .i64,.i .i64,.s,.s,.i .u8,.i .u8,.i .u8,.i .u8,.bd,.b,.s,.i .i64,.i .i64,.s,.s,.i .u8,.i .u8,.i .u8,.ws 0,.b,.b]
abbrev q88:List PB:=[.rows q12]
abbrev q89:List (Nat×PV):=[(0,.s),(7,.s),(8,.i .i64),(9,.i .i64),(12,.i .i64)]
abbrev q57:List PV:=[.i .i8,.i .i64,.i .i8,.i .i64]
abbrev q34:List PV:=[.b,.b,.s,.i .i64,.i .i64,.s,.s,.i .u8,.i .u8,.i .u8,.ws 0,.ws 1]
abbrev q75:List PB:=[.rows [.i .i64]]
abbrev q61:PSt:=⟨[(0,.s),(1,.i .i64),(2,.b),(8,.i .u8),(9,.i .u8),(10,.p 0 0),(11,.p 1 0),(12,.i .i64)],[(0,.ints .u8 18),(1,.ints .u8 18)],2,0,0,0⟩
abbrev q84:List PB:=[.rows [.i .i64],.rows [.i .i64]]
abbrev q59:List (Nat×PB):=[(0,.rows [.i .i64]),(1,.rows [.i .i64]),(2,.cells q34),(3,.cells [.i .i64,.i .i64,.i .i64]),(4,.cells [.b]),(5,.cells [.ik .i64 0,.ik .i64 0,.ik .i64 0])]
abbrev q19:List (Nat×PB):=[(0,.rows [.i .i64]),(1,.rows [.i .i64]),(2,.cells q34),(3,.cells [.i .i64,.i .i64,.i .i64]),(4,.cells [.b]),(5,.cells [.i .i64,.i .i64,.i .i64]),(62,.rows [.i .i64]),(63,.rows [.i .i64])]
abbrev q22:List (Nat×PB):=[(0,.rows [.i .i64]),(1,.rows [.i .i64]),(2,.cells q34),(3,.cells [.i .i64,.i .i64,.i .i64]),(4,.cells [.b]),(5,.cells [.i .i64,.i .i64,.i .i64])]
abbrev q54:PSt:=⟨[(3,.p 2 0),(4,.p 3 0),(5,.p 4 0),(6,.p 5 0),(8,.i .i64),(9,.ws 62),(10,.ws 63),(11,.fn 83 [.p 4 0]),(12,.i .i64),(15,.i .i64),(16,.b),(17,.i .i64),(53,.ws 62),(54,.i .i64),(55,.i .i64)],q19,64,2,2,2⟩
abbrev q55:PSt:=⟨[(3,.p 2 0),(4,.p 3 0),(5,.p 4 0),(6,.p 5 0),(8,.i .i64),(9,.ws 0),(10,.ws 1),(11,.fn 83 [.p 4 0]),(12,.i .i64),(15,.i .i64),(16,.b),(17,.i .i64),(53,.ws 0),(54,.i .i64),(55,.i .i64)],q22,62,2,2,2⟩
abbrev q68:List (Nat×PV):=[(6,.p 5 0),(7,.b)]
abbrev q44:List (Nat×PB):=[(5,.cells [.i .i64,.i .i64,.i .i64])]
abbrev q95:PSt:=⟨q68,q44,64,2,2,2⟩
abbrev q33:PSt:=⟨[(3,.p 2 0),(4,.p 3 0),(5,.p 4 0),(6,.p 5 0),(8,.i .i64),(9,.ws 62),(10,.ws 63),(11,.fn 83 [.p 4 0]),(12,.i .i64),(53,.ws 62),(54,.i .i64),(55,.i .i64)],q19,64,2,2,2⟩
abbrev q96:PSt:=⟨q68,q44,62,2,2,2⟩
abbrev q35:PSt:=⟨[(3,.p 2 0),(4,.p 3 0),(5,.p 4 0),(6,.p 5 0),(8,.i .i64),(9,.ws 0),(10,.ws 1),(11,.fn 83 [.p 4 0]),(12,.i .i64),(53,.ws 0),(54,.i .i64),(55,.i .i64)],q22,62,2,2,2⟩
abbrev q56:List PV:=[.i .u8,.bd,.b,.s,.i .i64,.i .i64,.s,.s,.i .u8,.i .u8,.i .u8,.i .u8,.bd,.b,.s,.i .i64,.i .i64,.s,.s,.i .u8,.i .u8,.i .u8,.i .u8,.bd,.b,.s,.i .i64,.i .i64,.s,.s,.i .u8,.i .u8,.i .u8,.ws 2,.b,.b]
abbrev q78:List PX:=[⟨.ret,⟨[(2,.i .i64),(3,.i .i64)],[],1,1,1,1⟩⟩,⟨.exit 0,⟨[],[],1,1,1,1⟩⟩]
abbrev q36:List Lf:=[.bo,.bo,.s,.i .i64,.i .i64,.s,.s,.i .u8,.i .u8,.i .u8]
abbrev q25:List (Nat×PB):=[(0,.rows q12),(1,.cells q15),(2,.cells q73),(3,.cells [.ik .u8 0,.bk false,.bk false,.sk [],.ik .i64 0,.ik .i64 0,.sk [],.sk [],.ik .u8 0,.ik .u8 0,.ik .u8 0])]
abbrev q70:PSt:=⟨[(1,.p 1 0),(4,.p 2 0),(5,.p 3 0),(6,.b)],q25,4,1,1,1⟩
abbrev q85:List (Nat×PB):=[(0,.rows q12),(1,.cells q15)]
abbrev q98:List (Nat×PB):=[(0,.rows q12),(1,.cells q15),(2,.cells q24)]
abbrev q69:PSt:=⟨[(1,.p 1 0),(7,.i .i64),(8,.p 2 0),(10,.b),(11,.b)],q98,3,1,1,1⟩
abbrev q87:PSt:=⟨[(4,.b)],[],2,2,2,2⟩
abbrev q82:List Lf:=[.i .u8,.i .u8,.bo,.bo,.s,.i .i64,.i .i64,.s,.s,.i .u8,.i .u8,.i .u8]
abbrev q86:List (Nat×PB):=[(2,.cells q21),(3,.rows q12)]
def c86 (n:Nat):PF Tryz.prog 86 [.i .u16] (.s):=aw Tryz.func86 Tryz.call86 [] [] [] [] (f9 n)
def FT (n:Nat):LP Tryz.prog Tryz.f113.ntmps:=bH [] [] 0 (sb (acM [] [] Tryz.f113) 0) false ⟨[(0,.s),(1,.i .u8),(2,.i .u8),(7,.i .i64),(8,.i .i64)],[],0,0,0,0⟩ [] [⟨.exit 0,⟨[(7,.i .i64)],[],0,0,0,0⟩⟩] (dR n) n
def c113 (n:Nat):PF Tryz.prog 113 [.s,.i .u8,.i .u8] (.i .i64):=aw Tryz.func113 Tryz.call113 [] [FT n] [] [] (dq n)
def Gp (n:Nat):LP Tryz.prog Tryz.f69.ntmps:=bH [] [] 0 (sb (acM [] [] Tryz.f69) 0) false ⟨[(0,.s),(1,.i .i64),(6,.i .i64),(7,.i .i64)],[],0,0,0,0⟩ [] [⟨.ret,⟨[(4,.i .i64),(5,.i .i64)],[],0,0,0,0⟩⟩,⟨.exit 0,⟨[(6,.i .i64)],[],0,0,0,0⟩⟩] (cI n) n
def c69 (n:Nat):PF Tryz.prog 69 [.s,.i .i64] (.tp q41):=aw Tryz.func69 Tryz.call69 [] [Gp n] [] [] (ad n)
def c87 (n:Nat):PF Tryz.prog 87 [.ag q32] (.i .i64):=aw Tryz.func87 Tryz.call87 [(c113 n).e,(c69 n).e] [] [] [] (bq n)
def c52E (n:Nat):List (FE Tryz.prog):=[(c86 n).e,(c87 n).e]
def Gm (n:Nat):LP Tryz.prog Tryz.f52.ntmps:=bH (c52E n) [] 0 (sb (acM [] [] Tryz.f52) 0) false ⟨[(2,.p 1 0),(3,.p 50 0),(4,.i .i64),(5,.i .i64),(6,.s),(7,.i .i64)],[(1,.cells q32),(50,.cells q32)],162,0,0,0⟩ [] [⟨.exit 1,⟨[(2,.p 1 0),(3,.p 50 0),(6,.s)],[(1,.cells q32),(50,.cells q32)],162,0,0,0⟩⟩] (dh n) n
def c52 (n:Nat):PF Tryz.prog 52 [.ag [.i .u8,.b,.i .u16,.i .u8,.i .u8]] (.ag q32):=aw Tryz.func52 Tryz.call52 (c52E n) [Gm n] [] [] (eV n)
def c75 (n:Nat):PF Tryz.prog 75 [.i .i64] (.s):=aw Tryz.func75 Tryz.call75 [] [] [] [] (aA n)
def c53 (n:Nat):PF Tryz.prog 53 [.ag q46] (.s):=aw Tryz.func53 Tryz.call53 [(c75 n).e] [] [] [] (dk n)
def c45E (n:Nat):List (FE Tryz.prog):=[(c75 n).e]
def GB (n:Nat):LP Tryz.prog Tryz.f45.ntmps:=bH (c45E n) [] 0 (sb (acM [] [] Tryz.f45) 0) false ⟨[(1,.p 0 0),(3,.i .i64)],[(0,.cells q23)],1,0,0,0⟩ [] [⟨.ret,q80⟩,⟨.exit 0,⟨[],[],1,0,0,0⟩⟩] (aM n) n
def c45 (n:Nat):PF Tryz.prog 45 [.ag q23] (.i .i64):=aw Tryz.func45 Tryz.call45 (c45E n) [GB n] [] [] (au n)
def c54 (n:Nat):PF Tryz.prog 54 [.ag q46,.s] (.s):=aw Tryz.func54 Tryz.call54 [(c75 n).e] [] [] [] (ei n)
def c42 (n:Nat):PF Tryz.prog 42 [.ag q23] (.i .i64):=aw Tryz.func42 Tryz.call42 [] [] [] [] (ab n)
def c24 (n:Nat):PF Tryz.prog 24 [.ag q46] (.ag q23):=aw Tryz.func24 Tryz.call24 [(c52 n).e,(c53 n).e,(c45 n).e,(c54 n).e,(c42 n).e] [] [0] [] (aq n)
def c27 (n:Nat):PF Tryz.prog 27 [.ag q46] (.ag q23):=aw Tryz.func27 Tryz.call27 [(c24 n).e] [] [] [] (aJ n)
def c25 (n:Nat):PF Tryz.prog 25 [.ag [.i .u8,.i .u8,.b,.i .u16,.i .u8,.i .u8,.i .u8,.i .u8,.i .u8,.i .u8,.i .u8]] (.ag q42):=aw Tryz.func25 Tryz.call25 [(c27 n).e] [] [] [] (aY n)
def c133 (n:Nat):PF Tryz.prog 133 [.ag q32] (.i .i64):=aw Tryz.func133 Tryz.call133 [(c113 n).e] [] [] [] (ak n)
def c97 (n:Nat):PF Tryz.prog 97 [.ag q23] (.i .i64):=aw Tryz.func97 Tryz.call97 [(c87 n).e,(c45 n).e,(c133 n).e,(c69 n).e] [] [] [] (eI n)
def c134 (n:Nat):PF Tryz.prog 134 [.s,.i .i64] (.i .i64):=aw Tryz.func134 Tryz.call134 [(c75 n).e] [] [] [] (ca n)
def c98E (n:Nat):List (FE Tryz.prog):=[(c134 n).e]
def GK (n:Nat):LP Tryz.prog Tryz.f98.ntmps:=bH (c98E n) [] 0 (sb (acM [] [] Tryz.f98) 0) false q97 [] [⟨.ret,⟨q76,[],0,0,0,0⟩⟩,⟨.exit 0,⟨[],[],0,0,0,0⟩⟩] (bS n) n
def c98 (n:Nat):PF Tryz.prog 98 [.s,.i .i64] (.i .i64):=aw Tryz.func98 Tryz.call98 (c98E n) [GK n] [] [] (bQ n)
def Gc (n:Nat):LP Tryz.prog Tryz.f99.ntmps:=bH [] [] 0 (sb (acM [] [] Tryz.f99) 0) false ⟨[(1,.i .i64),(2,.p 0 0),(5,.i .i64)],[(0,.ints .u8 3)],1,0,0,0⟩ [] q90 (bL n) n
def c99 (n:Nat):PF Tryz.prog 99 [.ai .u8 3,.i .i64] (.i .i64):=aw Tryz.func99 Tryz.call99 [] [Gc n] [] [] (aQ n)
def c66 (n:Nat):PF Tryz.prog 66 [.ag q23] (.i .i64):=aw Tryz.func66 Tryz.call66 [(c97 n).e,(c45 n).e,(c98 n).e,(c42 n).e,(c99 n).e] [] [] [] (ek n)
def CP (n:Nat):List (FE Tryz.prog):=[(c133 n).e,(c69 n).e]
def FH (n:Nat):LP Tryz.prog Tryz.f100.ntmps:=bH (CP n) [] 0 (sb (acM [] [] Tryz.f100) 0) false ⟨[(1,.p 0 0),(4,.s),(5,.s),(6,.i .i64)],q83,1,0,0,0⟩ [] [⟨.exit 0,⟨[(1,.p 0 0),(4,.s),(5,.s)],q83,1,0,0,0⟩⟩] (df n) n
def EV (n:Nat):LP Tryz.prog Tryz.f100.ntmps:=bH (CP n) [] 1 (sb (acM [] [] Tryz.f100) 1) false ⟨[(1,.p 0 0),(4,.s),(5,.s),(9,.i .i64)],q83,1,0,0,0⟩ [] [⟨.exit 2,⟨[(1,.p 0 0),(4,.s),(5,.s)],q83,1,0,0,0⟩⟩] (jp n) n
def c100 (n:Nat):PF Tryz.prog 100 [.ag q32] (.tp q41):=aw Tryz.func100 Tryz.call100 (CP n) [FH n,EV n] [] [] (ar n)
def Fz (n:Nat):List (FE Tryz.prog):=[(c133 n).e,(c69 n).e]
def Et (n:Nat):LP Tryz.prog Tryz.f101.ntmps:=bH (Fz n) [] 0 (sb (acM [] [] Tryz.f101) 0) false ⟨[(1,.i .i64),(2,.p 0 0),(5,.i .i64)],q83,1,0,0,0⟩ [] [⟨.ret,⟨q76,[],1,0,0,0⟩⟩,⟨.exit 0,⟨[(1,.i .i64)],[],1,0,0,0⟩⟩] (aP n) n
def c101 (n:Nat):PF Tryz.prog 101 [.ag q32,.i .i64] (.i .i64):=aw Tryz.func101 Tryz.call101 (Fz n) [Et n] [] [] (iD n)
def E9 (n:Nat):List (FE Tryz.prog):=[(c45 n).e,(c134 n).e]
def FD (n:Nat):LP Tryz.prog Tryz.f135.ntmps:=bH (E9 n) [] 0 (sb (acM [] [] Tryz.f135) 0) false ⟨[(1,.p 0 0),(3,.ws 1),(4,.i .i64)],[(0,.cells q23),(1,.rows [.i .i64])],2,0,0,0⟩ [.nilT 3 1 [.i .i64]] [⟨.exit 0,⟨[(3,.ws 1)],[(1,.rows [.i .i64])],2,0,0,0⟩⟩] (bV n) n
def c135 (n:Nat):FF Tryz.prog 135 [.ag q23] [] 0 0 [⟨.ws 0,q66,[0],false⟩]:=funC Tryz.func135 Tryz.call135 (E9 n) [FD n] [] [] [] (fe n)
def c104 (n:Nat):PF Tryz.prog 104 q41 (.i .i64):=aw Tryz.func104 Tryz.call104 [] [] [] [] (ci n)
def DX (n:Nat):List (FE Tryz.prog):=[(c135 n).e,(c104 n).e,(c134 n).e]
def FI (n:Nat):LP Tryz.prog Tryz.f102.ntmps:=bH (DX n) [] 1 (sb (sb (acM [] [] Tryz.f102) 0).body 1) false ⟨[(1,.i .i64),(2,.p 0 0),(5,.ws 2),(6,.ws 1),(7,.i .i64),(8,.i .i64)],q60,3,0,0,0⟩ [] [⟨.exit 2,q81⟩] (ct n) n
def Fj (n:Nat):LP Tryz.prog Tryz.f102.ntmps:=bH (DX n) [FI n] 0 (sb (acM [] [] Tryz.f102) 0) false q81 [.nilT 5 2 [.i .i64,.i .i64,.i .i64]] [⟨.exit 0,⟨[(5,.ws 2)],[(2,.rows [.i .i64,.i .i64,.i .i64])],3,0,0,0⟩⟩] (cw n) n
def c102 (n:Nat):FF Tryz.prog 102 [.ag q23,.i .i64] [] 0 0 [⟨.ws 0,[(0,.rows [.i .i64,.i .i64,.i .i64])],[0],false⟩]:=funC Tryz.func102 Tryz.call102 (DX n) [Fj n] [] [] [] (f7 n)
def c67E (n:Nat):List (FE Tryz.prog):=[(c100 n).e,(c101 n).e,(c102 n).e]
def FZ (n:Nat):LP Tryz.prog Tryz.f67.ntmps:=bH (c67E n) [] 0 (sb (acM [] [] Tryz.f67) 0) false ⟨[(1,.p 0 0),(4,.i .i64),(5,.i .i64)],[(0,.cells q23)],1,0,0,0⟩ [] [⟨.ret,q80⟩,⟨.exit 0,⟨[],[],1,0,0,0⟩⟩] (dc n) n
def c67 (n:Nat):PF Tryz.prog 67 [.ag q23] (.i .i64):=aw Tryz.func67 Tryz.call67 (c67E n) [FZ n] [] [] (fS n)
def c34 (n:Nat):PF Tryz.prog 34 [.ag q23] (.i .i64):=aw Tryz.func34 Tryz.call34 [(c66 n).e,(c67 n).e] [] [] [] (aO n)
def Gs (n:Nat):LP Tryz.prog Tryz.f22.ntmps:=bH [] [] 0 (sb (acM [] [] Tryz.f22) 0) false ⟨[(1,.p 0 0),(3,.s),(4,.i .i64)],[(0,.cells q23)],1,0,0,0⟩ [] [⟨.ret,q80⟩,⟨.exit 0,⟨[(1,.p 0 0)],[(0,.cells q23)],1,0,0,0⟩⟩] (cc n) n
def c22 (n:Nat):PF Tryz.prog 22 [.ag q23] (.i .i64):=aw Tryz.func22 Tryz.call22 [] [Gs n] [] [] (aG n)
def c55 (n:Nat):PF Tryz.prog 55 [.ag q42] (.i .i64):=aw Tryz.func55 Tryz.call55 [(c34 n).e,(c22 n).e] [] [] [] (cC n)
def c70E (n:Nat):List (FE Tryz.prog):=[(c104 n).e]
def Gi (n:Nat):LP Tryz.prog Tryz.f70.ntmps:=bH (c70E n) [] 0 (sb (acM [] [] Tryz.f70) 0) false ⟨[(0,.i .i64),(4,.i .i64),(5,.i .i64)],[],0,0,0,0⟩ [] [⟨.exit 0,⟨q76,[],0,0,0,0⟩⟩] (bu n) n
def c70 (n:Nat):PF Tryz.prog 70 [.i .i64] (.i .i64):=aw Tryz.func70 Tryz.call70 (c70E n) [Gi n] [] [] (aX n)
def Gg (n:Nat):LP Tryz.prog Tryz.f71.ntmps:=cE [] [] 1006 (sb (sb (acM [] [4,6,11,13,18,20,25,27,32,34,36,41,43] Tryz.f71) 1004) 1006) false q64 [⟨.nrm,q64⟩] (iu n)
def F4 (n:Nat):LP Tryz.prog Tryz.f71.ntmps:=cE [] [Gg n] 1004 (sb (acM [] [4,6,11,13,18,20,25,27,32,34,36,41,43] Tryz.f71) 1004) false q64 [⟨.nrm,q64⟩] (ii n)
def Eb (n:Nat):LP Tryz.prog Tryz.f71.ntmps:=cE [] [] 1013 (sb (sb (acM [] [4,6,11,13,18,20,25,27,32,34,36,41,43] Tryz.f71) 1011) 1013) false q65 [⟨.nrm,q65⟩] (gU n)
def Eg (n:Nat):LP Tryz.prog Tryz.f71.ntmps:=cE [] [Eb n] 1011 (sb (acM [] [4,6,11,13,18,20,25,27,32,34,36,41,43] Tryz.f71) 1011) false q65 [⟨.nrm,q65⟩] (gT n)
def FG (n:Nat):LP Tryz.prog Tryz.f71.ntmps:=cE [] [] 1020 (sb (sb (acM [] [4,6,11,13,18,20,25,27,32,34,36,41,43] Tryz.f71) 1018) 1020) false q62 [⟨.nrm,q62⟩] (gS n)
def En (n:Nat):LP Tryz.prog Tryz.f71.ntmps:=cE [] [FG n] 1018 (sb (acM [] [4,6,11,13,18,20,25,27,32,34,36,41,43] Tryz.f71) 1018) false q62 [⟨.nrm,q62⟩] (gY n)
def Em (n:Nat):LP Tryz.prog Tryz.f71.ntmps:=cE [] [] 1027 (sb (sb (acM [] [4,6,11,13,18,20,25,27,32,34,36,41,43] Tryz.f71) 1025) 1027) false q63 [⟨.nrm,q63⟩] (gR n)
def EU (n:Nat):LP Tryz.prog Tryz.f71.ntmps:=cE [] [Em n] 1025 (sb (acM [] [4,6,11,13,18,20,25,27,32,34,36,41,43] Tryz.f71) 1025) false q63 [⟨.nrm,q63⟩] (gO n)
def FP (n:Nat):LP Tryz.prog Tryz.f71.ntmps:=cE [] [] 1036 (sb (sb (sb (acM [] [4,6,11,13,18,20,25,27,32,34,36,41,43] Tryz.f71) 1032) 1034) 1036) false q50 [⟨.nrm,q50⟩] (gX n)
def Fa (n:Nat):LP Tryz.prog Tryz.f71.ntmps:=cE [] [FP n] 1034 (sb (sb (acM [] [4,6,11,13,18,20,25,27,32,34,36,41,43] Tryz.f71) 1032) 1034) false q50 [⟨.nrm,q50⟩] (gV n)
def EB (n:Nat):LP Tryz.prog Tryz.f71.ntmps:=cE [] [Fa n] 1032 (sb (acM [] [4,6,11,13,18,20,25,27,32,34,36,41,43] Tryz.f71) 1032) false q50 [⟨.nrm,q50⟩] (hJ n)
def Ep (n:Nat):LP Tryz.prog Tryz.f71.ntmps:=cE [] [] 1043 (sb (sb (acM [] [4,6,11,13,18,20,25,27,32,34,36,41,43] Tryz.f71) 1041) 1043) false q91 q99 (hO n)
def Fn (n:Nat):LP Tryz.prog Tryz.f71.ntmps:=cE [] [Ep n] 1041 (sb (acM [] [4,6,11,13,18,20,25,27,32,34,36,41,43] Tryz.f71) 1041) false q91 q99 (gQ n)
def c71 (n:Nat):PF Tryz.prog 71 [.i .i64] (.tp q41):=aw Tryz.func71 Tryz.call71 [] [F4 n,Eg n,En n,EU n,EB n,Fn n] [] [4,6,11,13,18,20,25,27,32,34,36,41,43] (dN n)
def c72E (n:Nat):List (FE Tryz.prog):=[(c70 n).e,(c104 n).e]
def Gz (n:Nat):LP Tryz.prog Tryz.f72.ntmps:=bH (c72E n) [] 0 (sb (acM [] [] Tryz.f72) 0) false q67 [] q79 (gv n) n
def c72 (n:Nat):PF Tryz.prog 72 q41 (.i .i64):=aw Tryz.func72 Tryz.call72 (c72E n) [Gz n] [] [] (i6 n)
def Cl (n:Nat):List (FE Tryz.prog):=[(c72 n).e,(c70 n).e,(c104 n).e]
def D3 (n:Nat):LP Tryz.prog Tryz.f72.ntmps:=bH (Cl n) [] 0 (sb (acM [] [] Tryz.f72) 0) false q67 [] q79 (eF n) n
def FU (n:Nat):PF Tryz.prog 72 q41 (.i .i64):=aw Tryz.func72 Tryz.call72 (Cl n) [D3 n] [] [] (fF n)
def Cy (n:Nat):List (FE Tryz.prog):=[(FU n).e,(c70 n).e,(c104 n).e]
def CN (n:Nat):LP Tryz.prog Tryz.f72.ntmps:=bH (Cy n) [] 0 (sb (acM [] [] Tryz.f72) 0) false q67 [] q79 (fG n) n
def Gn (n:Nat):PF Tryz.prog 72 q41 (.i .i64):=aw Tryz.func72 Tryz.call72 (Cy n) [CN n] [] [] (ax n)
def c73 (n:Nat):PF Tryz.prog 73 [.s] (.i .i64):=aw Tryz.func73 Tryz.call73 [] [] [] [] (aC n)
def c43 (n:Nat):PF Tryz.prog 43 [.ag q23] (.tp q41):=aw Tryz.func43 Tryz.call43 [(c69 n).e,(c45 n).e,(c70 n).e,(c71 n).e,(Gn n).e,(c73 n).e] [] [] [] (aB n)
def c26 (n:Nat):PF Tryz.prog 26 [.ag q42,.ag q42] (.i .i64):=aw Tryz.func26 Tryz.call26 [(c55 n).e,(c43 n).e] [] [] [] (cX n)
def c29 (n:Nat):PF Tryz.prog 29 [.ag q46] (.ag q38):=aw Tryz.func29 Tryz.call29 [(c27 n).e] [] [] [] (aZ n)
def c56 (n:Nat):PF Tryz.prog 56 [.ag q38,.i .i64] (.ag q38):=aw Tryz.func56 Tryz.call56 [] [] [] [] (fv n)
def c28 (n:Nat):PF Tryz.prog 28 [.ag [.i .u8,.b,.i .u16,.i .u8,.i .u8,.i .u8,.i .u8,.i .u8,.i .u8,.i .u8,.i .u8,.i .u8,.b,.i .u16,.i .u8,.i .u8,.i .u8,.i .u8,.i .u8,.i .u8,.i .u8],.b] (.ag q24):=aw Tryz.func28 Tryz.call28 [(c29 n).e,(c42 n).e,(c56 n).e,(c43 n).e,(c27 n).e,(c24 n).e] [] [] [] (dQ n)
def c6E (n:Nat):List (FE Tryz.prog):=[(c24 n).e,(c25 n).e,(c26 n).e,(c27 n).e,(c28 n).e,(c29 n).e]
def c6j3 (n:Nat):LP Tryz.prog Tryz.f6.ntmps:=cE (c6E n) [] 1003 (sb (acM [] [3,9,11,16,22,24,30,41,44,46,47] Tryz.f6) 1003) true ⟨[(1,.p 1 0),(2,.p 2 0),(3,.ws 0),(13,.b)],q29,4,1,1,1⟩ [⟨.nrm,⟨[(1,.p 1 0),(2,.p 2 0),(3,.ws 3)],q30,5,1,1,1⟩⟩,⟨.nrm,⟨[(1,.p 1 0),(2,.p 2 0),(3,.ws 0)],q29,4,1,1,1⟩⟩] (gi n)
def Es (n:Nat):LP Tryz.prog Tryz.f6.ntmps:=cE (c6E n) [] 1011 (sb (sb (acM [] [3,9,11,16,22,24,30,41,44,46,47] Tryz.f6) 1009) 1011) true q48 [⟨.nrm,q48⟩] (fH n)
def CB (n:Nat):LP Tryz.prog Tryz.f6.ntmps:=cE (c6E n) [] 1011 (sb (sb (acM [] [3,9,11,16,22,24,30,41,44,46,47] Tryz.f6) 1009) 1011) true q49 [⟨.nrm,q49⟩] (fj n)
def c6j9 (n:Nat):LP Tryz.prog Tryz.f6.ntmps:=cE (c6E n) [altL (Es n) (CB n) rfl] 1009 (sb (acM [] [3,9,11,16,22,24,30,41,44,46,47] Tryz.f6) 1009) true q48 [⟨.nrm,q48⟩] (eH n)
def GO (n:Nat):LP Tryz.prog Tryz.f6.ntmps:=cE (c6E n) [altL (Es n) (CB n) rfl] 1009 (sb (acM [] [3,9,11,16,22,24,30,41,44,46,47] Tryz.f6) 1009) true q49 [⟨.nrm,q49⟩] (d5 n)
def FV (n:Nat):LP Tryz.prog Tryz.f6.ntmps:=cE (c6E n) [] 1016 (sb (acM [] [3,9,11,16,22,24,30,41,44,46,47] Tryz.f6) 1016) true ⟨[(1,.p 1 0),(2,.p 2 0),(3,.rs 21 3 0 .q none),(23,.i .u8),(34,.b)],q30,5,1,1,1⟩ [⟨.nrm,⟨[(1,.p 1 0),(2,.p 2 0),(3,.rs 21 3 0 .q none),(34,.b)],q30,5,1,1,1⟩⟩] (d6 n)
def Fu (n:Nat):LP Tryz.prog Tryz.f6.ntmps:=cE (c6E n) [] 1016 (sb (acM [] [3,9,11,16,22,24,30,41,44,46,47] Tryz.f6) 1016) true ⟨[(1,.p 1 0),(2,.p 2 0),(3,.rs 21 0 0 .q none),(23,.i .u8),(34,.b)],q29,4,1,1,1⟩ [⟨.nrm,⟨[(1,.p 1 0),(2,.p 2 0),(3,.rs 21 0 0 .q none),(34,.b)],q29,4,1,1,1⟩⟩] (dI n)
def Ek (n:Nat):LP Tryz.prog Tryz.f6.ntmps:=cE (c6E n) [] 1024 (sb (sb (acM [] [3,9,11,16,22,24,30,41,44,46,47] Tryz.f6) 1022) 1024) true ⟨[(2,.p 1 0),(3,.rs 21 2 0 .q none),(4,.p 3 0),(5,.p 4 0),(61,.b)],q37,6,1,1,1⟩ q43 (fE n)
def Ci (n:Nat):LP Tryz.prog Tryz.f6.ntmps:=cE (c6E n) [] 1024 (sb (sb (acM [] [3,9,11,16,22,24,30,41,44,46,47] Tryz.f6) 1022) 1024) true ⟨[(2,.p 1 0),(3,.rs 21 0 0 .q none),(4,.p 2 0),(5,.p 3 0),(61,.b)],q77,5,1,1,1⟩ q43 (fi n)
def Gf (n:Nat):LP Tryz.prog Tryz.f6.ntmps:=cE (c6E n) [altL (Ek n) (Ci n) rfl] 1022 (sb (acM [] [3,9,11,16,22,24,30,41,44,46,47] Tryz.f6) 1022) true ⟨[(2,.p 1 0),(3,.rs 21 2 0 .q none),(4,.p 3 0),(5,.p 4 0),(58,.b)],q37,6,1,1,1⟩ q43 (dY n)
def FA (n:Nat):LP Tryz.prog Tryz.f6.ntmps:=cE (c6E n) [altL (Ek n) (Ci n) rfl] 1022 (sb (acM [] [3,9,11,16,22,24,30,41,44,46,47] Tryz.f6) 1022) true ⟨[(2,.p 1 0),(3,.rs 21 0 0 .q none),(4,.p 2 0),(5,.p 3 0),(58,.b)],q77,5,1,1,1⟩ q43 (dD n)
def GU (n:Nat):LP Tryz.prog Tryz.f6.ntmps:=cE (c6E n) [] 1030 (sb (acM [] [3,9,11,16,22,24,30,41,44,46,47] Tryz.f6) 1030) true ⟨[(2,.p 1 0),(3,.rs 21 2 0 .q none),(6,.p 3 0),(86,.b)],[(1,.cells q14),(2,.rows q13),(3,.cells [.ik .u8 3,.bk false,.bk false,.sk [],.ik .i64 0,.ik .i64 0,.sk [],.sk [],.ik .u8 0,.ik .u8 0,.ik .u8 0,.ik .u8 0,.bk false,.bk false,.sk [],.ik .i64 0,.ik .i64 0,.sk [],.sk [],.ik .u8 0,.ik .u8 0,.ik .u8 0,.ik .u8 0,.bk false,.bk false,.sk [],.ik .i64 0,.ik .i64 0,.sk [],.sk [],.ik .u8 0,.ik .u8 0,.ik .u8 0,.ws 5,.b,.b]),(4,.rows q12),(5,.rows q12)],6,1,1,1⟩ [⟨.nrm,⟨q92,q39,6,1,1,1⟩⟩] (dZ n)
def D7 (n:Nat):LP Tryz.prog Tryz.f6.ntmps:=cE (c6E n) [] 1030 (sb (acM [] [3,9,11,16,22,24,30,41,44,46,47] Tryz.f6) 1030) true ⟨[(2,.p 1 0),(3,.rs 21 0 0 .q none),(6,.p 2 0),(86,.b)],[(0,.rows q13),(1,.cells q16),(2,.cells [.ik .u8 3,.bk false,.bk false,.sk [],.ik .i64 0,.ik .i64 0,.sk [],.sk [],.ik .u8 0,.ik .u8 0,.ik .u8 0,.ik .u8 0,.bk false,.bk false,.sk [],.ik .i64 0,.ik .i64 0,.sk [],.sk [],.ik .u8 0,.ik .u8 0,.ik .u8 0,.ik .u8 0,.bk false,.bk false,.sk [],.ik .i64 0,.ik .i64 0,.sk [],.sk [],.ik .u8 0,.ik .u8 0,.ik .u8 0,.ws 4,.b,.b]),(3,.rows q12),(4,.rows q12)],5,1,1,1⟩ [⟨.nrm,⟨q93,q40,5,1,1,1⟩⟩] (dL n)
def c6l0 (n:Nat):LP Tryz.prog Tryz.f6.ntmps:=bH (c6E n) [] 0 (sb (acM [] [3,9,11,16,22,24,30,41,44,46,47] Tryz.f6) 0) true ⟨[(2,.p 1 0),(3,.rs 21 2 0 .q none),(6,.p 3 0),(7,.i .i64)],q39,6,1,1,1⟩ [] [⟨.exit 1,⟨q92,q52,6,1,1,1⟩⟩] (bz n) n
def GR (n:Nat):LP Tryz.prog Tryz.f6.ntmps:=bH (c6E n) [] 0 (sb (acM [] [3,9,11,16,22,24,30,41,44,46,47] Tryz.f6) 0) true ⟨[(2,.p 1 0),(3,.rs 21 0 0 .q none),(6,.p 2 0),(7,.i .i64)],q40,5,1,1,1⟩ [] [⟨.exit 1,⟨q93,q53,5,1,1,1⟩⟩] (bm n) n
def GD (n:Nat):LP Tryz.prog Tryz.f6.ntmps:=cE (c6E n) [] 1041 (sb (acM [] [3,9,11,16,22,24,30,41,44,46,47] Tryz.f6) 1041) true ⟨[(2,.p 1 0),(3,.rs 21 2 0 .q none),(6,.p 3 0),(8,.i .i64),(111,.b)],q52,6,1,1,1⟩ [⟨.nrm,⟨[(2,.p 1 0),(3,.rs 21 2 0 .q none),(6,.p 3 0),(8,.i .i64)],q52,6,1,1,1⟩⟩] (eg n)
def Fe (n:Nat):LP Tryz.prog Tryz.f6.ntmps:=cE (c6E n) [] 1041 (sb (acM [] [3,9,11,16,22,24,30,41,44,46,47] Tryz.f6) 1041) true ⟨[(2,.p 1 0),(3,.rs 21 0 0 .q none),(6,.p 2 0),(8,.i .i64),(111,.b)],q53,5,1,1,1⟩ [⟨.nrm,⟨[(2,.p 1 0),(3,.rs 21 0 0 .q none),(6,.p 2 0),(8,.i .i64)],q53,5,1,1,1⟩⟩] (dE n)
def Gk (n:Nat):LP Tryz.prog Tryz.f6.ntmps:=cE (c6E n) [] 1044 (sb (acM [] [3,9,11,16,22,24,30,41,44,46,47] Tryz.f6) 1044) true ⟨[(2,.p 1 0),(3,.rs 21 2 0 .q none),(6,.p 3 0),(8,.i .i64),(122,.b)],q52,6,1,1,1⟩ [⟨.nrm,q72⟩] (eh n)
def Ef (n:Nat):LP Tryz.prog Tryz.f6.ntmps:=cE (c6E n) [] 1044 (sb (acM [] [3,9,11,16,22,24,30,41,44,46,47] Tryz.f6) 1044) true ⟨[(2,.p 1 0),(3,.rs 21 0 0 .q none),(6,.p 2 0),(8,.i .i64),(122,.b)],q53,5,1,1,1⟩ [⟨.nrm,q72⟩] (dK n)
def Ga (n:Nat):LP Tryz.prog Tryz.f6.ntmps:=cE (c6E n) [] 1046 (sb (acM [] [3,9,11,16,22,24,30,41,44,46,47] Tryz.f6) 1046) true q72 [⟨.nrm,q94⟩] (cW n)
def Gl (n:Nat):LP Tryz.prog Tryz.f6.ntmps:=cE (c6E n) [] 1047 (sb (acM [] [3,9,11,16,22,24,30,41,44,46,47] Tryz.f6) 1047) true q94 [⟨.nrm,⟨[(2,.p 1 0),(6,.p 2 0)],q45,5,1,1,1⟩⟩] (cS n)
def c6 (n:Nat):FF Tryz.prog 6 [.ag q58] [.rows q13] 1 1 [⟨.ag q28,[(1,.rows q12)],[1],false⟩]:=funC Tryz.func6 Tryz.call6 (c6E n) [c6j3 n,altL (c6j9 n) (GO n) rfl,altL (FV n) (Fu n) rfl,altL (Gf n) (FA n) rfl,altL (GU n) (D7 n) rfl,altL (c6l0 n) (GR n) rfl,altL (GD n) (Fe n) rfl,altL (Gk n) (Ef n) rfl,Ga n,Gl n] [] [3,9,11,16,22,24,30,41,44,46,47] [0] (dM n)
def c181 (n:Nat):PF Tryz.prog 181 [.i .u8] (.s):=aw Tryz.func181 Tryz.call181 [] [] [] [] (kG n)
def Eo (n:Nat):List (FE Tryz.prog):=[(c181 n).e]
def Eq (n:Nat):LP Tryz.prog Tryz.f146.ntmps:=bH (Eo n) [] 0 (sb (acM [] [] Tryz.f146) 0) false ⟨[(0,.i .u8),(3,.i .u8)],[],0,0,0,0⟩ [] [⟨.ret,⟨[(2,.i .u8)],[],0,0,0,0⟩⟩,⟨.exit 0,⟨[],[],0,0,0,0⟩⟩] (kC n) n
def c146 (n:Nat):PF Tryz.prog 146 [.i .u8] (.i .u8):=aw Tryz.func146 Tryz.call146 (Eo n) [Eq n] [] [] (mC n)
def c114 (n:Nat):PF Tryz.prog 114 [.ag q51] (.tp [.i .u8,.ag q51]):=aw Tryz.func114 Tryz.call114 [(c146 n).e] [] [] [] (iV n)
def c147 (n:Nat):PF Tryz.prog 147 [.s,.i .i64,.i .u8] (.tp q41):=aw Tryz.func147 Tryz.call147 [] [] [] [] (ae n)
def Ft (n:Nat):List (FE Tryz.prog):=[(c147 n).e]
def El (n:Nat):LP Tryz.prog Tryz.f115.ntmps:=bH (Ft n) [] 0 (sb (acM [] [] Tryz.f115) 0) false ⟨[(0,.s),(4,.p 0 0),(7,.p 1 0),(8,.i .i64),(9,.i .i64),(10,.i .i64)],[(0,.cells q32),(1,.cells q32)],2,0,0,0⟩ [] [⟨.ret,⟨[(4,.p 0 0),(5,.i .i64),(6,.i .i64)],q83,2,0,0,0⟩⟩,⟨.exit 0,⟨[(0,.s),(4,.p 0 0),(7,.p 1 0),(8,.i .i64),(9,.i .i64)],[(0,.cells q32),(1,.cells q32)],2,0,0,0⟩⟩] (aR n) n
def c115 (n:Nat):PF Tryz.prog 115 [.s,.i .i64] (.tp [.ag q32,.i .i64,.i .i64]):=aw Tryz.func115 Tryz.call115 (Ft n) [El n] [] [] (lb n)
def D9 (n:Nat):LP Tryz.prog Tryz.f116.ntmps:=bH [] [] 0 (sb (acM [] [] Tryz.f116) 0) false ⟨[(1,.p 0 0),(3,.p 1 0),(4,.i .i64),(5,.i .i64)],[(0,.cells q51),(1,.cells q51)],2,0,0,0⟩ [] [⟨.ret,⟨[(2,.s),(3,.p 1 0)],[(1,.cells q51)],2,0,0,0⟩⟩,⟨.exit 0,⟨[(1,.p 0 0),(3,.p 1 0),(4,.i .i64)],[(0,.cells q51),(1,.cells q51)],2,0,0,0⟩⟩] (jE n) n
def c116 (n:Nat):PF Tryz.prog 116 [.ag q51] (.tp [.s,.ag q51]):=aw Tryz.func116 Tryz.call116 [] [D9 n] [] [] (jy n)
def c148 (n:Nat):PF Tryz.prog 148 [.i .u8,.i .u8] (.i .i64):=aw Tryz.func148 Tryz.call148 [] [] [] [] (jx n)
def A5 (n:Nat):List (FE Tryz.prog):=[(c148 n).e]
def EQ (n:Nat):LP Tryz.prog Tryz.f117.ntmps:=bH (A5 n) [] 2 (sb (sb (sb (acM [] [] Tryz.f117) 0).body 1).body 2) false ⟨[(2,.i .i64),(3,.p 0 0),(4,.p 1 0),(6,.p 2 0),(7,.p 3 0),(8,.i .u8),(9,.i .i64),(10,.i .i64),(11,.i .i64)],q47,4,0,0,0⟩ [] [⟨.exit 4,⟨[(2,.i .i64),(3,.p 0 0),(4,.p 1 0),(6,.p 2 0),(7,.p 3 0),(8,.i .u8),(9,.i .i64),(10,.i .i64)],q47,4,0,0,0⟩⟩] (io n) n
def EL (n:Nat):LP Tryz.prog Tryz.f117.ntmps:=bH (A5 n) [EQ n] 1 (sb (sb (acM [] [] Tryz.f117) 0).body 1) false ⟨[(2,.i .i64),(3,.p 0 0),(4,.p 1 0),(6,.p 2 0),(7,.p 3 0),(8,.i .u8),(9,.i .i64)],q47,4,0,0,0⟩ [] [⟨.exit 2,q74⟩] (ir n) n
def EM (n:Nat):LP Tryz.prog Tryz.f117.ntmps:=bH (A5 n) [EL n] 0 (sb (acM [] [] Tryz.f117) 0) false q74 [] [⟨.exit 0,⟨[(6,.p 2 0),(7,.p 3 0)],[(2,.ints .u8 3),(3,.ints .u8 3)],4,0,0,0⟩⟩] (ig n) n
def c117 (n:Nat):PF Tryz.prog 117 [.ai .u8 3,.ai .u8 3,.i .i64] (.ai .u8 3):=aw Tryz.func117 Tryz.call117 (A5 n) [EM n] [] [] (jB n)
def c89E (n:Nat):List (FE Tryz.prog):=[(c114 n).e,(c115 n).e,(c116 n).e,(c117 n).e]
def D5 (n:Nat):LP Tryz.prog Tryz.f89.ntmps:=cE (c89E n) [] 1013 (sb (sb (sb (acM [] [12,13,21,24] Tryz.f89) 0).body 1012) 1013) false q31 [⟨.nrm,⟨[(0,.s),(4,.p 0 0),(5,.p 1 0),(6,.p 2 0),(7,.p 3 0),(8,.p 4 0),(9,.p 5 0),(10,.p 6 0),(11,.p 7 0),(12,.i .i64),(13,.i .i64),(40,.b)],q20,8,0,0,0⟩⟩] (ja n)
def fS9 (n:Nat):LP Tryz.prog Tryz.f89.ntmps:=cE (c89E n) [D5 n] 1012 (sb (sb (acM [] [12,13,21,24] Tryz.f89) 0).body 1012) false ⟨[(0,.s),(4,.p 0 0),(5,.p 1 0),(6,.p 2 0),(7,.p 3 0),(8,.p 4 0),(9,.p 5 0),(10,.p 6 0),(11,.p 7 0),(12,.i .i64),(13,.i .i64),(22,.b)],q20,8,0,0,0⟩ [⟨.exit 0,⟨q71,q20,8,0,0,0⟩⟩,⟨.nrm,q31⟩] (iX n)
def Fg (n:Nat):LP Tryz.prog Tryz.f89.ntmps:=cE (c89E n) [] 1024 (sb (sb (sb (acM [] [12,13,21,24] Tryz.f89) 0).body 1021) 1024) false ⟨[(0,.s),(4,.p 0 0),(5,.p 1 0),(6,.p 2 0),(7,.p 3 0),(8,.p 4 0),(9,.p 5 0),(10,.p 6 0),(11,.p 7 0),(12,.i .i64),(13,.i .i64),(76,.b)],q20,8,0,0,0⟩ [⟨.nrm,q31⟩] (iP n)
def EY (n:Nat):LP Tryz.prog Tryz.f89.ntmps:=cE (c89E n) [Fg n] 1021 (sb (sb (acM [] [12,13,21,24] Tryz.f89) 0).body 1021) false ⟨[(0,.s),(4,.p 0 0),(5,.p 1 0),(6,.p 2 0),(7,.p 3 0),(8,.p 4 0),(9,.p 5 0),(10,.p 6 0),(11,.p 7 0),(12,.i .i64),(13,.i .i64),(56,.i .i64),(63,.b)],q20,8,0,0,0⟩ [⟨.nrm,q31⟩] (je n)
def GA (n:Nat):LP Tryz.prog Tryz.f89.ntmps:=bH (c89E n) [fS9 n,EY n] 0 (sb (acM [] [12,13,21,24] Tryz.f89) 0) false q31 [] [⟨.exit 0,⟨q71,[(0,.cells q23),(1,.ints .i64 3),(2,.cells q51),(3,.cells q23),(4,.ints .i64 3),(5,.ints .u8 3),(6,.ints .u8 3),(7,.cells q51)],8,0,0,0⟩⟩,⟨.ret,⟨[(4,.p 0 0),(5,.p 1 0),(6,.p 2 0)],[(0,.cells q23),(1,.ints .i64 3),(2,.cells q51)],8,0,0,0⟩⟩] (jg n) n
def c89 (n:Nat):PF Tryz.prog 89 [.s,.i .i64] (.tp [.ag q23,.ai .i64 3,.ag q51]):=aw Tryz.func89 Tryz.call89 (c89E n) [GA n] [] [12,13,21,24] (iN n)
def c88 (n:Nat):PF Tryz.prog 88 [.s] (.tp [.ag q23,.i .i64,.i .i64]):=aw Tryz.func88 Tryz.call88 [(c89 n).e,(c66 n).e] [] [] [] (kD n)
def c57 (n:Nat):PF Tryz.prog 57 [.s] (.tp [.ag q23,.i .i64,.i .i64]):=aw Tryz.func57 Tryz.call57 [(c88 n).e,(c34 n).e,(c89 n).e] [] [] [] (kA n)
def c30 (n:Nat):PF Tryz.prog 30 [.s] (.ag q38):=aw Tryz.func30 Tryz.call30 [(c57 n).e] [] [] [] (ba n)
def c31 (n:Nat):FF Tryz.prog 31 [.ag q15] q88 1 1 [⟨.b,[],[],false⟩]:=funC Tryz.func31 Tryz.call31 [] [] [] [] [0] (jh n)
noncomputable def Au (_n:Nat):Ent:=Do 92 204
theorem zw (n:Nat):gp Tryz.prog (Au n):=A2 Tryz.call92 (λs n hl h w=>(Tryz.strconv_Atoi s n hl h w).mono λe w' ⟨h1,t,h2⟩=>⟨h1,h2▸kB _ _ _⟩) (λs hl h w hg=>Ay s hl h w hg)
def c92 (n:Nat):FE Tryz.prog:=libF (zw n)
def c105 (n:Nat):PF Tryz.prog 105 [.i .i64] (.i .i64):=aw Tryz.func105 Tryz.call105 [] [] [] [] (bR n)
theorem pure_seasons_Check (n:Nat):∀a r,bR n a=some r->iR Tryz.prog 105 (argP [.i .i64] a) (encP (.i .i64) r):=λa r h=>(c105 n).ok a r h
def c74 (n:Nat):PF Tryz.prog 74 [.ag q23] (.tp [.i .i64,.b]):=aw Tryz.func74 Tryz.call74 [(c92 n),(c105 n).e] [] [] [] (bp n)
def c208 (_n:Nat):FE Tryz.prog:=libF (zg Tryz.func208 (by kernel_rfl) (by kernel_rfl) (by kernel_rfl) (by kernel_rfl))
def c190 (n:Nat):PF Tryz.prog 190 [.s,.i .u8] (.i .i64):=aw Tryz.func190 Tryz.call190 [(c208 n)] [] [] [] (bB n)
def c210 (n:Nat):PF Tryz.prog 210 [.s,.i .u8] (.i .i64):=aw Tryz.func210 Tryz.call210 [(c190 n).e] [] [] [] (cQ n)
def c211 (n:Nat):PF Tryz.prog 211 [.i .i32] (.b):=aw Tryz.func211 Tryz.call211 [] [] [] [] (bX n)
def yp (n:Nat):List (FE Tryz.prog):=[(c210 n).e,(c211 n).e]
def EG (n:Nat):LP Tryz.prog Tryz.f195.ntmps:=bH (yp n) [] 0 (sb (acM [] [] Tryz.f195) 0) false ⟨[(175,.p 0 0)],[(0,.iter)],1,0,0,0⟩ [] [⟨.ret,⟨q76,[],1,0,0,0⟩⟩,⟨.exit 9,⟨[],[],1,0,0,0⟩⟩] (bU n) n
def FK (n:Nat):LP Tryz.prog Tryz.f195.ntmps:=bH (yp n) [] 2 (sb (sb (acM [] [] Tryz.f195) 1).body 2) false ⟨q89,[],128,0,0,0⟩ [] [⟨.exit 3,⟨[(8,.i .i64),(9,.i .i64)],[],128,0,0,0⟩⟩] (ij n) n
def DJ (n:Nat):LP Tryz.prog Tryz.f195.ntmps:=bH (yp n) [] 2 (sb (sb (acM [] [] Tryz.f195) 1).body 2) false ⟨q89,[],56,0,0,0⟩ [] [⟨.exit 3,⟨[(8,.i .i64),(9,.i .i64)],[],56,0,0,0⟩⟩] (ic n) n
def EZ (n:Nat):LP Tryz.prog Tryz.f195.ntmps:=bH (yp n) [altL (FK n) (DJ n) rfl] 1 (sb (acM [] [] Tryz.f195) 1) false ⟨[(0,.s),(7,.s),(8,.i .i64),(9,.i .i64)],[],0,0,0,0⟩ [] [⟨.ret,⟨q76,[],0,0,0,0⟩⟩,⟨.exit 1,⟨[],[],0,0,0,0⟩⟩] (bW n) n
def c195 (n:Nat):PF Tryz.prog 195 [.s,.i .i32] (.i .i64):=aw Tryz.func195 Tryz.call195 (yp n) [EG n,EZ n,noL 3 (sb (acM [] [] Tryz.f195) 3)] [] [] (cf n)
def c164 (n:Nat):PF Tryz.prog 164 [.s,.i .i32] (.b):=aw Tryz.func164 Tryz.call164 [(c195 n).e] [] [] [] (bT n)
def c163 (n:Nat):FF Tryz.prog 163 [.i .i32,.p 0 0] [.cells [.s]] 1 1 [⟨.b,[],[],false⟩]:=funC Tryz.func163 Tryz.call163 [(c164 n).e] [] [] [] [0] (fA n)
def Ej (n:Nat):List (FE Tryz.prog):=[(c163 n).e]
def Fb (n:Nat):LP Tryz.prog Tryz.f194.ntmps:=bH (Ej n) [] 0 (sb (acM [] [] Tryz.f194) 0) false ⟨[(1,.fn 163 [.p 0 0]),(2,.b),(10,.p 1 0)],[(0,.cells [.s]),(1,.iter)],2,1,1,1⟩ [] [⟨.ret,⟨[(6,.i .i64)],[],2,1,1,1⟩⟩,⟨.exit 0,⟨[],[],2,1,1,1⟩⟩] (br n) n
def c194 (n:Nat):FF Tryz.prog 194 [.s,.fn 163 [.p 0 0],.b] [.cells [.s]] 1 1 [⟨.i .i64,[],[],false⟩]:=funC Tryz.func194 Tryz.call194 (Ej n) [Fb n] [] [] [0] (gy n)
def c162 (n:Nat):FF Tryz.prog 162 [.s,.fn 163 [.p 0 0]] [.cells [.s]] 1 1 [⟨.i .i64,[],[],false⟩]:=funC Tryz.func162 Tryz.call162 [(c194 n).e] [] [] [] [0] (gE n)
def c137 (n:Nat):PF Tryz.prog 137 [.s,.s] (.b):=aw Tryz.func137 Tryz.call137 [(c162 n).e] [] [] [] (dB n)
def EK (n:Nat):LP Tryz.prog Tryz.f166.ntmps:=bH [] [] 0 (sb (acM [] [] Tryz.f166) 0) false ⟨[(0,.s),(1,.i .u8)],[],0,0,0,0⟩ [] [⟨.exit 0,⟨[(0,.s)],[],0,0,0,0⟩⟩] (bM n) n
def c166 (n:Nat):PF Tryz.prog 166 [.s,.i .u8] (.s):=aw Tryz.func166 Tryz.call166 [] [EK n] [] [] (dj n)
def Fw (n:Nat):LP Tryz.prog Tryz.f165.ntmps:=bH [] [] 0 (sb (acM [] [] Tryz.f165) 0) false ⟨[(0,.s),(1,.i .u8)],[],0,0,0,0⟩ [] [⟨.exit 0,⟨[(0,.s)],[],0,0,0,0⟩⟩] (cK n) n
def c165 (n:Nat):PF Tryz.prog 165 [.s,.i .u8] (.s):=aw Tryz.func165 Tryz.call165 [] [Fw n] [] [] (dF n)
def c138 (n:Nat):PF Tryz.prog 138 [.s,.sk [48]] (.s):=aw Tryz.func138 Tryz.call138 [(c166 n).e,(c165 n).e] [] [] [] (jk n)
def c161 (n:Nat):PF Tryz.prog 161 [.s,.sk [88]] (.i .i64):=aw Tryz.func161 Tryz.call161 [(c190 n).e] [noL 0 (sb (acM [] [] Tryz.f161) 0)] [] [] (eW n)
def c136 (n:Nat):PF Tryz.prog 136 [.s,.sk [88]] (.i .i64):=aw Tryz.func136 Tryz.call136 [(c161 n).e] [] [] [] (iC n)
def c103 (n:Nat):PF Tryz.prog 103 [.s,.sk [88]] (.b):=aw Tryz.func103 Tryz.call103 [(c136 n).e] [] [] [] (eo n)
def c107 (n:Nat):PF Tryz.prog 107 [.ag q32] (.b):=aw Tryz.func107 Tryz.call107 [(c103 n).e] [] [] [] (bD n)
noncomputable def zS (_n:Nat):Ent:=zL 149
theorem xk (n:Nat):gp Tryz.prog (zS n):=zW Tryz.call149 λs h v hv w=>(Tryz.strconv_ParseInt_10_at64_ok s h v hv w).mono λe w' ⟨h1,h2⟩=>⟨h1,h2.elim (λh=>h▸RowKit.Below.refl _ _) (λ⟨t,h⟩=>h▸kB _ _ _)⟩
def c149 (n:Nat):FE Tryz.prog:=libF (xk n)
def EC (n:Nat):LP Tryz.prog Tryz.f150.ntmps:=bH [] [] 0 (sb (acM [] [] Tryz.f150) 0) false ⟨[(4,.i .i64),(9,.i .i64),(10,.i .i64)],[],0,0,0,0⟩ [] [⟨.exit 0,⟨q76,[],0,0,0,0⟩⟩] (ge n) n
def c150 (n:Nat):PF Tryz.prog 150 [.i .i64] (.tp q41):=aw Tryz.func150 Tryz.call150 [] [EC n] [] [] (jC n)
def c183 (n:Nat):PF Tryz.prog 183 [.i .i64] (.i .u64):=aw Tryz.func183 Tryz.call183 [] [] [] [] (mt n)
def c182 (n:Nat):PF Tryz.prog 182 [.i .u64,.i .u64] (.tp [.i .u64,.i .u64]):=aw Tryz.func182 Tryz.call182 [] [] [] [] (fV n)
def c184 (n:Nat):PF Tryz.prog 184 [.i .u64,.b] (.tp q41):=aw Tryz.func184 Tryz.call184 [] [] [] [] (lU n)
def c151 (n:Nat):PF Tryz.prog 151 q41 (.tp q41):=aw Tryz.func151 Tryz.call151 [(c183 n).e,(c182 n).e,(c184 n).e] [] [] [] (nK n)
def c118 (n:Nat):PF Tryz.prog 118 [.ag q32] (.tp q41):=aw Tryz.func118 Tryz.call118 [(c149 n),(c150 n).e,(c151 n).e] [] [] [] (bZ n)
def c139 (n:Nat):PF Tryz.prog 139 [.ag q32] (.b):=aw Tryz.func139 Tryz.call139 [(c137 n).e,(c118 n).e] [] [] [] (aD n)
def c106 (n:Nat):PF Tryz.prog 106 [.ag q32] (.i .i64):=aw Tryz.func106 Tryz.call106 [(c137 n).e,(c138 n).e,(c107 n).e,(c139 n).e] [] [] [] (eN n)
def c91 (n:Nat):PF Tryz.prog 91 [.ag q32] (.tp q41):=aw Tryz.func91 Tryz.call91 [(c106 n).e,(c107 n).e,(c118 n).e] [] [] [] (cn n)
noncomputable def qc (l:List V):Option (Int):=match l with
 | [.i .i64 a0]=>some (a0)
 | _=>none
noncomputable def zn (n:Nat):Ent:=tC 140 qc (λa=>cN n a) (λr=>.tp [.i .i64 r.1,.i .i64 r.2.1,.i .i64 r.2.2])
theorem xh (n:Nat):gp Tryz.prog (zn n):=mz (arg:=λa=>[.i .i64 a]) Tryz.call140 (λl a h=>by
 unfold qc at h
 split at h
 ·cases h;rfl
 ·cases h) (λa=>rfl) (λa r h=>lZ n (λx r h=>pure_seasons_Check n x r h) a r h)
def c140 (n:Nat):FE Tryz.prog:=libF (xh n)
def c157 (n:Nat):PF Tryz.prog 157 [.i .i64] (.i .i64):=aw Tryz.func157 Tryz.call157 [] [] [] [] (eQ n)
def c144 (n:Nat):PF Tryz.prog 144 q41 (.i .i64):=aw Tryz.func144 Tryz.call144 [(c157 n).e] [] [] [] (fQ n)
def c200 (n:Nat):PF Tryz.prog 200 q41 (.tp q41):=aw Tryz.func200 Tryz.call200 [] [] [] [] (uW n)
def c173 (n:Nat):PF Tryz.prog 173 q41 (.tp q41):=aw Tryz.func173 Tryz.call173 [(c200 n).e] [] [] [] (gM n)
theorem pure_ints_Div (n:Nat):∀a r,gM n a.1 a.2=some r->iR Tryz.prog 173 (argP q41 a) (encP (.tp q41) r):=λa r h=>(c173 n).ok a r h
noncomputable def qC (l:List V):Option (Int):=match l with
 | [.i .i64 a0]=>some (a0)
 | _=>none
noncomputable def yg (n:Nat):Ent:=tC 189 qC (λa=>cP n a) (λr=>.i .i64 r)
theorem xF (n:Nat):gp Tryz.prog (yg n):=mz (arg:=λa=>[.i .i64 a]) Tryz.call189 (λl a h=>by
 unfold qC at h
 split at h
 ·cases h;rfl
 ·cases h) (λa=>rfl) (λa r h=>mW n (λx y r h=>pure_ints_Div n (x,y) r h) a r h)
def c189 (n:Nat):FE Tryz.prog:=libF (xF n)
def c158 (n:Nat):PF Tryz.prog 158 [.i .i64] (.i .i64):=aw Tryz.func158 Tryz.call158 [(c189 n)] [] [] [] (gF n)
def c123 (n:Nat):PF Tryz.prog 123 [.i .i64] (.tp q41):=aw Tryz.func123 Tryz.call123 [(c157 n).e,(c158 n).e] [] [] [] (gD n)
def c180 (n:Nat):PF Tryz.prog 180 [.i .i64] (.tp [.b,.i .i64]):=aw Tryz.func180 Tryz.call180 [(c157 n).e,(c189 n)] [] [] [] (fN n)
theorem pure_years_Leap (n:Nat):∀a r,fN n a=some r->iR Tryz.prog 180 (argP [.i .i64] a) (encP (.tp [.b,.i .i64]) r):=λa r h=>(c180 n).ok a r h
noncomputable def qi (l:List V):Option (Int×Int):=match l with
 | [.i .i64 a0,.i .i64 a1]=>some (a0,a1)
 | _=>none
noncomputable def Aa (n:Nat):Ent:=tC 145 qi (λa=>ch n a.1 a.2) (λr=>.i .i64 r)
theorem xj (n:Nat):gp Tryz.prog (Aa n):=mz (arg:=λa=>[.i .i64 a.1,.i .i64 a.2]) Tryz.call145 (λl a h=>by
 unfold qi at h
 split at h
 ·cases h;rfl
 ·cases h) (λa=>rfl) (λa r h=>mi n (λx r h=>pure_years_Leap n x r h) a.1 a.2 r h)
def c145 (n:Nat):FE Tryz.prog:=libF (xj n)
def E3 (n:Nat):List (FE Tryz.prog):=[(c144 n).e,(c123 n).e,(c145 n)]
def Fm (n:Nat):LP Tryz.prog Tryz.f127.ntmps:=bH (E3 n) [] 0 (sb (acM [] [] Tryz.f127) 0) false ⟨[(0,.i .i64),(7,.i .i64),(22,.i .i64),(23,.i .i64)],[],0,0,0,0⟩ [] [⟨.exit 0,⟨[(7,.i .i64)],[],0,0,0,0⟩⟩] (aK n) n
def c127 (n:Nat):PF Tryz.prog 127 q41 (.tp q41):=aw Tryz.func127 Tryz.call127 (E3 n) [Fm n] [] [] (cO n)
noncomputable def qu (l:List V):Option (Int×Int):=match l with
 | [.i .i64 a0,.i .i64 a1]=>some (a0,a1)
 | _=>none
noncomputable def Ad (n:Nat):Ent:=tC 172 qu (λa=>lp n a.1 a.2) (λr=>.tp [.i .i64 r.1,.i .i64 r.2])
theorem wX (n:Nat):gp Tryz.prog (Ad n):=mz (arg:=λa=>[.i .i64 a.1,.i .i64 a.2]) Tryz.call172 (λl a h=>by
 unfold qu at h
 split at h
 ·cases h;rfl
 ·cases h) (λa=>rfl) (λa r h=>rV n a.1 a.2 r h)
def c172 (n:Nat):FE Tryz.prog:=libF (wX n)
def c174 (n:Nat):PF Tryz.prog 174 q41 (.tp q41):=aw Tryz.func174 Tryz.call174 [] [] [] [] (nJ n)
def c141 (n:Nat):PF Tryz.prog 141 [.i .i64,.i .i64,.i .i64] (.tp [.i .i64,.i .i64,.i .i64]):=aw Tryz.func141 Tryz.call141 [(c144 n).e,(c172 n),(c173 n).e,(c174 n).e,(c157 n).e] [] [] [] (jR n)
def c128 (n:Nat):PF Tryz.prog 128 q41 (.tp q41):=aw Tryz.func128 Tryz.call128 [(c127 n).e,(c145 n)] [] [] [] (dO n)
def c108 (n:Nat):PF Tryz.prog 108 q41 (.tp [.ag q57,.i .i64]):=aw Tryz.func108 Tryz.call108 [(c140 n),(c127 n).e,(c141 n).e,(c128 n).e] [] [] [] (dX n)
def c76 (n:Nat):PF Tryz.prog 76 [.ag q23] (.b):=aw Tryz.func76 Tryz.call76 [(c106 n).e,(c74 n).e,(c107 n).e,(c91 n).e,(c108 n).e] [] [] [] (cU n)
def GS (n:Nat):LP Tryz.prog Tryz.f77.ntmps:=bH [] [] 0 (sb (acM [] [] Tryz.f77) 0) false q97 [] [⟨.ret,⟨[(4,.b)],[],0,0,0,0⟩⟩,⟨.exit 0,⟨[],[],0,0,0,0⟩⟩] (bG n) n
def c77 (n:Nat):PF Tryz.prog 77 [.s,.i .i64] (.b):=aw Tryz.func77 Tryz.call77 [] [GS n] [] [] (bC n)
def Gd (n:Nat):LP Tryz.prog Tryz.f79.ntmps:=bH [] [] 0 (sb (acM [] [] Tryz.f79) 0) false ⟨[(3,.i .i64),(10,.ag [.s,.s]),(11,.i .i64)],[],1,0,0,0⟩ [] [⟨.exit 0,⟨[(3,.i .i64)],[],1,0,0,0⟩⟩] (aV n) n
def c79 (n:Nat):PF Tryz.prog 79 [.ag q23] (.i .i64):=aw Tryz.func79 Tryz.call79 [] [Gd n] [] [] (aN n)
def c109 (n:Nat):PF Tryz.prog 109 [.i .u8] (.i .i64):=aw Tryz.func109 Tryz.call109 [] [] [] [] (eO n)
def c78E (n:Nat):List (FE Tryz.prog):=[(c109 n).e]
def Gh (n:Nat):LP Tryz.prog Tryz.f78.ntmps:=bH (c78E n) [] 0 (sb (acM [] [] Tryz.f78) 0) false ⟨[(1,.i .i64),(13,.ai .u8 3),(14,.i .i64)],[],1,0,0,0⟩ [] q90 (dT n) n
def c78 (n:Nat):PF Tryz.prog 78 [.ai .u8 3,.i .i64] (.i .i64):=aw Tryz.func78 Tryz.call78 (c78E n) [Gh n] [] [] (dl n)
def c47 (n:Nat):PF Tryz.prog 47 [.ag q23] (.i .i64):=aw Tryz.func47 Tryz.call47 [(c74 n).e,(c76 n).e,(c77 n).e,(c79 n).e,(c78 n).e] [] [] [] (fW n)
def c110 (n:Nat):PF Tryz.prog 110 [.s,.i .i64] (.b):=aw Tryz.func110 Tryz.call110 [] [] [] [] (fX n)
def c80E (n:Nat):List (FE Tryz.prog):=[(c110 n).e]
def GN (n:Nat):LP Tryz.prog Tryz.f80.ntmps:=bH (c80E n) [] 0 (sb (acM [] [] Tryz.f80) 0) false ⟨[(0,.s),(5,.ws 0),(7,.i .i64),(8,.i .i64)],q66,1,0,0,0⟩ [.nilT 5 0 [.i .i64]] [⟨.exit 0,⟨[(5,.ws 0)],q66,1,0,0,0⟩⟩] (da n) n
def c80 (n:Nat):FF Tryz.prog 80 [.s,.i .i64] [] 0 0 [⟨.ws 0,q66,[0],false⟩]:=funC Tryz.func80 Tryz.call80 (c80E n) [GN n] [] [] [] (cG n)
def c48 (n:Nat):FF Tryz.prog 48 [.ag q23] [] 0 0 [⟨.ag q34,[(0,.rows [.i .i64]),(1,.rows [.i .i64])],[0,1],false⟩]:=funC Tryz.func48 Tryz.call48 [(c74 n).e,(c80 n).e] [] [] [] [] (ki n)
def c81 (n:Nat):FF Tryz.prog 81 [.ws 0] q75 1 1 [⟨.ws 1,[(1,.rows [.i .i64])],[1],false⟩]:=funC Tryz.func81 Tryz.call81 [] [] [] [] [0] (fh n)
def Gu (n:Nat):LP Tryz.prog Tryz.f82.ntmps:=bH [] [] 0 (sb (acM [] [] Tryz.f82) 0) false ⟨[(0,.ws 0),(2,.i .i64),(3,.i .i64)],q66,1,1,0,1⟩ [] [⟨.exit 0,⟨[],q66,1,1,0,1⟩⟩] (fw n) n
def c82 (n:Nat):FF Tryz.prog 82 [.ws 0] q75 0 1 [⟨.tp [],q66,[],false⟩]:=funC Tryz.func82 Tryz.call82 [] [Gu n] [] [] [0] (eD n)
def E5 (n:Nat):LP Tryz.prog Tryz.f175.ntmps:=bH [] [] 0 (sb (acM [] [] Tryz.f175) 0) false ⟨[(0,.s),(9,.p 0 0)],[(0,.iter)],1,0,0,0⟩ [] [⟨.ret,q80⟩,⟨.exit 0,⟨[(0,.s)],[],1,0,0,0⟩⟩] (ew n) n
def c175 (n:Nat):PF Tryz.prog 175 [.s] (.i .i64):=aw Tryz.func175 Tryz.call175 [] [E5 n] [] [] (fD n)
def Er (n:Nat):LP Tryz.prog Tryz.f201.ntmps:=bH [] [] 0 (sb (acM [] [] Tryz.f201) 0) false ⟨[(1,.i .u8),(5,.i .i64),(9,.ws 0),(10,.i .i64),(11,.i .i64)],[(0,.rows [.i .u8])],1,0,0,0⟩ [] [⟨.exit 0,⟨[(5,.i .i64)],[],1,0,0,0⟩⟩] (dP n) n
def c201 (n:Nat):PF Tryz.prog 201 [.s,.i .u8] (.i .i64):=aw Tryz.func201 Tryz.call201 [] [Er n] [] [] (ia n)
def c176 (n:Nat):PF Tryz.prog 176 [.s] (.tp q41):=aw Tryz.func176 Tryz.call176 [(c175 n).e,(c201 n).e] [] [] [] (kb n)
def c202 (n:Nat):PF Tryz.prog 202 [.i .i64] (.i .i64):=aw Tryz.func202 Tryz.call202 [(c150 n).e] [] [] [] (jZ n)
def c177 (n:Nat):PF Tryz.prog 177 [.s,.i .i64] (.b):=aw Tryz.func177 Tryz.call177 [(c202 n).e] [] [] [] (gP n)
def Ec (n:Nat):LP Tryz.prog Tryz.f203.ntmps:=bH [] [] 0 (sb (acM [] [] Tryz.f203) 0) false ⟨[(1,.i .i64),(4,.p 0 0),(5,.i .i64)],[(0,.ints .u8 18)],1,0,0,0⟩ [] [⟨.exit 0,⟨[(4,.p 0 0)],[(0,.ints .u8 18)],1,0,0,0⟩⟩] (eC n) n
def c203 (n:Nat):PF Tryz.prog 203 [.s,.i .i64] (.ai .u8 18):=aw Tryz.func203 Tryz.call203 [] [Ec n] [] [] (gB n)
def c204 (n:Nat):PF Tryz.prog 204 [.s,.ai .u8 18] (.i .i64):=aw Tryz.func204 Tryz.call204 [(c201 n).e] [] [] [] (dn n)
def B2 (n:Nat):List (FE Tryz.prog):=[(c203 n).e,(c204 n).e]
def E6 (n:Nat):LP Tryz.prog Tryz.f178.ntmps:=bH (B2 n) [] 0 (sb (acM [] [] Tryz.f178) 0) false q61 [] [⟨.exit 0,q61⟩] (cV n) n
def Fc (n:Nat):LP Tryz.prog Tryz.f178.ntmps:=bH (B2 n) [] 1 (sb (acM [] [] Tryz.f178) 1) false ⟨[(0,.s),(2,.b),(8,.i .u8),(9,.i .u8),(10,.p 0 0),(11,.p 1 0),(12,.i .i64)],[(0,.ints .u8 18),(1,.ints .u8 18)],74,0,0,0⟩ [] [⟨.ret,⟨[(6,.i .i64),(7,.i .i64)],[],74,0,0,0⟩⟩,⟨.exit 2,⟨[(0,.s),(2,.b),(8,.i .u8),(11,.p 1 0),(12,.i .i64)],[(1,.ints .u8 18)],74,0,0,0⟩⟩] (bn n) n
def FR (n:Nat):LP Tryz.prog Tryz.f178.ntmps:=bH (B2 n) [] 2 (sb (acM [] [] Tryz.f178) 2) false ⟨[(0,.s),(8,.i .u8),(11,.p 1 0),(12,.i .i64)],[(1,.ints .u8 18)],74,0,0,0⟩ [] [⟨.exit 5,⟨[(0,.s),(11,.p 1 0)],[(1,.ints .u8 18)],74,0,0,0⟩⟩] (aI n) n
def c178 (n:Nat):PF Tryz.prog 178 [.s,.i .i64,.b] (.tp q41):=aw Tryz.func178 Tryz.call178 (B2 n) [E6 n,Fc n,FR n] [] [] (bN n)
def c142 (n:Nat):PF Tryz.prog 142 [.s,.i .i64] (.tp q41):=aw Tryz.func142 Tryz.call142 [(c175 n).e,(c176 n).e,(c177 n).e,(c178 n).e] [] [] [] (lx n)
def c179 (n:Nat):PF Tryz.prog 179 [.s] (.tp q41):=aw Tryz.func179 Tryz.call179 [(c175 n).e,(c201 n).e] [] [] [] (gL n)
def c143 (n:Nat):PF Tryz.prog 143 [.s,.i .i64] (.tp q41):=aw Tryz.func143 Tryz.call143 [(c175 n).e,(c177 n).e,(c179 n).e,(c178 n).e] [] [] [] (ll n)
def c111 (n:Nat):PF Tryz.prog 111 [.s,.i .i64,.b,.i .i64] (.tp [.i .i64,.b]):=aw Tryz.func111 Tryz.call111 [(c142 n).e,(c143 n).e] [] [] [] (cT n)
def c84 (n:Nat):FF Tryz.prog 84 [.ag q34,.i .i64,.b] q84 2 2 [⟨.tp [.i .i64,.b],[],[],false⟩]:=funC Tryz.func84 Tryz.call84 [(c107 n).e,(c91 n).e,(c111 n).e] [] [] [] [0,1] (bh n)
def c83 (n:Nat):FF Tryz.prog 83 [.i .i64,.i .i64,.p 0 0] [.cells [.b]] 1 1 [⟨.b,[],[],false⟩]:=funC Tryz.func83 Tryz.call83 [] [] [] [] [0] (bs n)
def c112 (n:Nat):PF Tryz.prog 112 q41 (.tp q41):=aw Tryz.func112 Tryz.call112 [(c144 n).e,(c145 n)] [] [] [] (jD n)
def c85 (n:Nat):FF Tryz.prog 85 [.ag q34,.i .i64,.i .i64] q84 2 2 [⟨.i .i64,[],[],false⟩]:=funC Tryz.func85 Tryz.call85 [(c112 n).e] [] [] [] [0,1] (cD n)
def c49E (n:Nat):List (FE Tryz.prog):=[(c81 n).e,(c82 n).e,(c84 n).e,(c83 n).e,(c85 n).e]
def GC (n:Nat):LP Tryz.prog Tryz.f49.ntmps:=cE (c49E n) [] 1003 (sb (acM [] [3,17,20,23,30] Tryz.f49) 1003) false ⟨[(3,.p 2 0),(4,.p 3 0),(5,.p 4 0),(6,.p 5 0),(8,.ik .i64 1),(9,.ws 0),(10,.ws 1),(25,.b)],q59,62,2,2,2⟩ [⟨.nrm,⟨[(3,.p 2 0),(4,.p 3 0),(5,.p 4 0),(6,.p 5 0),(8,.ik .i64 (-1)),(9,.ws 62),(10,.ws 63)],[(0,.rows [.i .i64]),(1,.rows [.i .i64]),(2,.cells q34),(3,.cells [.i .i64,.i .i64,.i .i64]),(4,.cells [.b]),(5,.cells [.ik .i64 0,.ik .i64 0,.ik .i64 0]),(62,.rows [.i .i64]),(63,.rows [.i .i64])],64,2,2,2⟩⟩,⟨.nrm,⟨[(3,.p 2 0),(4,.p 3 0),(5,.p 4 0),(6,.p 5 0),(8,.ik .i64 1),(9,.ws 0),(10,.ws 1)],q59,62,2,2,2⟩⟩] (eK n)
def Ce (n:Nat):LP Tryz.prog Tryz.f49.ntmps:=cE (c49E n) [] 1020 (sb (sb (sb (sb (acM [] [3,17,20,23,30] Tryz.f49) 0).body 1).body 1017) 1020) false ⟨[(3,.p 2 0),(4,.p 3 0),(5,.p 4 0),(6,.p 5 0),(8,.i .i64),(9,.ws 62),(10,.ws 63),(11,.fn 83 [.p 4 0]),(12,.i .i64),(15,.i .i64),(16,.b),(53,.ws 62),(54,.i .i64),(55,.i .i64)],q19,64,2,2,2⟩ [⟨.nrm,⟨[(3,.p 2 0),(4,.p 3 0),(5,.p 4 0),(6,.p 5 0),(8,.i .i64),(9,.ws 62),(10,.ws 63),(11,.fn 83 [.p 4 0]),(12,.i .i64),(15,.i .i64),(16,.b),(53,.ws 62),(54,.i .i64),(55,.i .i64),(76,.b)],q19,64,2,2,2⟩⟩] (gu n)
def yi (n:Nat):LP Tryz.prog Tryz.f49.ntmps:=cE (c49E n) [] 1020 (sb (sb (sb (sb (acM [] [3,17,20,23,30] Tryz.f49) 0).body 1).body 1017) 1020) false ⟨[(3,.p 2 0),(4,.p 3 0),(5,.p 4 0),(6,.p 5 0),(8,.i .i64),(9,.ws 0),(10,.ws 1),(11,.fn 83 [.p 4 0]),(12,.i .i64),(15,.i .i64),(16,.b),(53,.ws 0),(54,.i .i64),(55,.i .i64)],q22,62,2,2,2⟩ [⟨.nrm,⟨[(3,.p 2 0),(4,.p 3 0),(5,.p 4 0),(6,.p 5 0),(8,.i .i64),(9,.ws 0),(10,.ws 1),(11,.fn 83 [.p 4 0]),(12,.i .i64),(15,.i .i64),(16,.b),(53,.ws 0),(54,.i .i64),(55,.i .i64),(76,.b)],q22,62,2,2,2⟩⟩] (cM n)
def Cj (n:Nat):LP Tryz.prog Tryz.f49.ntmps:=cE (c49E n) [] 1023 (sb (sb (sb (sb (acM [] [3,17,20,23,30] Tryz.f49) 0).body 1).body 1017) 1023) false q54 [⟨.nrm,q54⟩] (gx n)
def yB (n:Nat):LP Tryz.prog Tryz.f49.ntmps:=cE (c49E n) [] 1023 (sb (sb (sb (sb (acM [] [3,17,20,23,30] Tryz.f49) 0).body 1).body 1017) 1023) false q55 [⟨.nrm,q55⟩] (cL n)
def B7 (n:Nat):LP Tryz.prog Tryz.f49.ntmps:=cE (c49E n) [] 1030 (sb (sb (sb (sb (sb (acM [] [3,17,20,23,30] Tryz.f49) 0).body 1).body 1017) 2).body 1030) false ⟨[(3,.p 2 0),(4,.p 3 0),(5,.p 4 0),(6,.p 5 0),(8,.i .i64),(9,.ws 62),(10,.ws 63),(11,.fn 83 [.p 4 0]),(12,.i .i64),(15,.i .i64),(16,.b),(17,.i .i64),(19,.i .i64),(53,.ws 62),(54,.i .i64),(55,.i .i64),(94,.ws 63),(95,.i .i64),(96,.i .i64)],q19,64,2,2,2⟩ [⟨.nrm,⟨[(3,.p 2 0),(4,.p 3 0),(5,.p 4 0),(6,.p 5 0),(8,.i .i64),(9,.ws 62),(10,.ws 63),(11,.fn 83 [.p 4 0]),(12,.i .i64),(15,.i .i64),(16,.b),(17,.i .i64),(19,.i .i64),(53,.ws 62),(54,.i .i64),(55,.i .i64),(94,.ws 63),(95,.i .i64),(96,.i .i64),(119,.b)],q19,64,2,2,2⟩⟩] (gq n)
def yG (n:Nat):LP Tryz.prog Tryz.f49.ntmps:=cE (c49E n) [] 1030 (sb (sb (sb (sb (sb (acM [] [3,17,20,23,30] Tryz.f49) 0).body 1).body 1017) 2).body 1030) false ⟨[(3,.p 2 0),(4,.p 3 0),(5,.p 4 0),(6,.p 5 0),(8,.i .i64),(9,.ws 0),(10,.ws 1),(11,.fn 83 [.p 4 0]),(12,.i .i64),(15,.i .i64),(16,.b),(17,.i .i64),(19,.i .i64),(53,.ws 0),(54,.i .i64),(55,.i .i64),(94,.ws 1),(95,.i .i64),(96,.i .i64)],q22,62,2,2,2⟩ [⟨.nrm,⟨[(3,.p 2 0),(4,.p 3 0),(5,.p 4 0),(6,.p 5 0),(8,.i .i64),(9,.ws 0),(10,.ws 1),(11,.fn 83 [.p 4 0]),(12,.i .i64),(15,.i .i64),(16,.b),(17,.i .i64),(19,.i .i64),(53,.ws 0),(54,.i .i64),(55,.i .i64),(94,.ws 1),(95,.i .i64),(96,.i .i64),(119,.b)],q22,62,2,2,2⟩⟩] (dW n)
def FC (n:Nat):LP Tryz.prog Tryz.f49.ntmps:=bH (c49E n) [altL (B7 n) (yG n) rfl] 2 (sb (sb (sb (sb (acM [] [3,17,20,23,30] Tryz.f49) 0).body 1).body 1017) 2) false ⟨[(3,.p 2 0),(4,.p 3 0),(5,.p 4 0),(6,.p 5 0),(8,.i .i64),(9,.ws 62),(10,.ws 63),(11,.fn 83 [.p 4 0]),(12,.i .i64),(15,.i .i64),(16,.b),(17,.i .i64),(53,.ws 62),(54,.i .i64),(55,.i .i64),(94,.ws 63),(95,.i .i64),(96,.i .i64)],q19,64,2,2,2⟩ [] [⟨.ret,q95⟩,⟨.exit 4,q33⟩] (hC n) n
def CE (n:Nat):LP Tryz.prog Tryz.f49.ntmps:=bH (c49E n) [altL (B7 n) (yG n) rfl] 2 (sb (sb (sb (sb (acM [] [3,17,20,23,30] Tryz.f49) 0).body 1).body 1017) 2) false ⟨[(3,.p 2 0),(4,.p 3 0),(5,.p 4 0),(6,.p 5 0),(8,.i .i64),(9,.ws 0),(10,.ws 1),(11,.fn 83 [.p 4 0]),(12,.i .i64),(15,.i .i64),(16,.b),(17,.i .i64),(53,.ws 0),(54,.i .i64),(55,.i .i64),(94,.ws 1),(95,.i .i64),(96,.i .i64)],q22,62,2,2,2⟩ [] [⟨.ret,q96⟩,⟨.exit 4,q35⟩] (aL n) n
def Cp (n:Nat):LP Tryz.prog Tryz.f49.ntmps:=cE (c49E n) [altL (Ce n) (yi n) rfl,altL (Cj n) (yB n) rfl,altL (FC n) (CE n) rfl] 1017 (sb (sb (sb (acM [] [3,17,20,23,30] Tryz.f49) 0).body 1).body 1017) false q33 [⟨.nrm,q33⟩,⟨.ret,q95⟩] (gt n)
def xR (n:Nat):LP Tryz.prog Tryz.f49.ntmps:=cE (c49E n) [altL (Ce n) (yi n) rfl,altL (Cj n) (yB n) rfl,altL (FC n) (CE n) rfl] 1017 (sb (sb (sb (acM [] [3,17,20,23,30] Tryz.f49) 0).body 1).body 1017) false q35 [⟨.nrm,q35⟩,⟨.ret,q96⟩] (d9 n)
def Ei (n:Nat):LP Tryz.prog Tryz.f49.ntmps:=bH (c49E n) [altL (Cp n) (xR n) rfl] 1 (sb (sb (acM [] [3,17,20,23,30] Tryz.f49) 0).body 1) false q33 [] [⟨.ret,q95⟩,⟨.exit 2,⟨[(3,.p 2 0),(4,.p 3 0),(5,.p 4 0),(6,.p 5 0),(8,.i .i64),(9,.ws 62),(10,.ws 63),(11,.fn 83 [.p 4 0]),(12,.i .i64)],q19,64,2,2,2⟩⟩] (hS n) n
def Cw (n:Nat):LP Tryz.prog Tryz.f49.ntmps:=bH (c49E n) [altL (Cp n) (xR n) rfl] 1 (sb (sb (acM [] [3,17,20,23,30] Tryz.f49) 0).body 1) false q35 [] [⟨.ret,q96⟩,⟨.exit 2,⟨[(3,.p 2 0),(4,.p 3 0),(5,.p 4 0),(6,.p 5 0),(8,.i .i64),(9,.ws 0),(10,.ws 1),(11,.fn 83 [.p 4 0]),(12,.i .i64)],q22,62,2,2,2⟩⟩] (be n) n
def F0 (n:Nat):LP Tryz.prog Tryz.f49.ntmps:=bH (c49E n) [altL (Ei n) (Cw n) rfl] 0 (sb (acM [] [3,17,20,23,30] Tryz.f49) 0) false ⟨[(3,.p 2 0),(4,.p 3 0),(5,.p 4 0),(6,.p 5 0),(8,.i .i64),(9,.ws 62),(10,.ws 63),(11,.fn 83 [.p 4 0]),(12,.i .i64),(13,.b)],q19,64,2,2,2⟩ [] [⟨.ret,q95⟩,⟨.exit 0,⟨[(6,.p 5 0)],q44,64,2,2,2⟩⟩] (g9 n) n
def Ea (n:Nat):LP Tryz.prog Tryz.f49.ntmps:=bH (c49E n) [altL (Ei n) (Cw n) rfl] 0 (sb (acM [] [3,17,20,23,30] Tryz.f49) 0) false ⟨[(3,.p 2 0),(4,.p 3 0),(5,.p 4 0),(6,.p 5 0),(8,.i .i64),(9,.ws 0),(10,.ws 1),(11,.fn 83 [.p 4 0]),(12,.i .i64),(13,.b)],q22,62,2,2,2⟩ [] [⟨.ret,q96⟩,⟨.exit 0,⟨[(6,.p 5 0)],q44,62,2,2,2⟩⟩] (bA n) n
def c49 (n:Nat):FF Tryz.prog 49 [.ag q34,.ag [.i .i64,.i .i64,.i .i64],.b] q84 2 2 [⟨.tp [.ag [.i .i64,.i .i64,.i .i64],.b],[],[],false⟩]:=funC Tryz.func49 Tryz.call49 (c49E n) [GC n,altL (F0 n) (Ea n) rfl] [] [3,17,20,23,30] [0,1] (eG n)
def c21 (n:Nat):PF Tryz.prog 21 [.ag q23] (.i .i64):=aw Tryz.func21 Tryz.call21 [(c47 n).e,(c48 n).e,(c49 n).e] [] [] [] (aS n)
def c68 (n:Nat):PF Tryz.prog 68 [.ag q23] (.b):=aw Tryz.func68 Tryz.call68 [(c103 n).e] [] [] [] (db n)
def c90 (n:Nat):PF Tryz.prog 90 [.ag q23] (.b):=aw Tryz.func90 Tryz.call90 [(c68 n).e] [] [] [] (gZ n)
def c58 (n:Nat):PF Tryz.prog 58 [.ag q42] (.i .i64):=aw Tryz.func58 Tryz.call58 [(c21 n).e,(c90 n).e] [] [] [] (ib n)
def c93 (n:Nat):FF Tryz.prog 93 [] [] 0 0 [⟨.mp 0,[(0,.mp .u8 [(0,121),(1,122),(2,126),(3,129)])],[0],false⟩]:=funC Tryz.func93 Tryz.call93 [] [] [] [] [] (eP n)
def c44 (n:Nat):PF Tryz.prog 44 [.ag q23] (.i .u8):=aw Tryz.func44 Tryz.call44 [(c74 n).e] [] [] [] (aF n)
def c121 (n:Nat):FF Tryz.prog 121 [.i .i64,.ws 0] q75 1 1 [⟨.ag q57,[],[],false⟩]:=funC Tryz.func121 Tryz.call121 [(c108 n).e] [] [] [] [0] (dx n)
def c124 (n:Nat):PF Tryz.prog 124 [.i .i64] (.tp q41):=aw Tryz.func124 Tryz.call124 [(c157 n).e,(c158 n).e] [] [] [] (ml n)
def c159 (n:Nat):PF Tryz.prog 159 [.i .i64] (.ag [.i .i8,.i .i64]):=aw Tryz.func159 Tryz.call159 [] [] [] [] (ue n)
def c125 (n:Nat):PF Tryz.prog 125 q41 (.ag q57):=aw Tryz.func125 Tryz.call125 [(c159 n).e] [] [] [] (ls n)
def c122 (n:Nat):FF Tryz.prog 122 [.i .i64,.ws 0] q75 1 1 [⟨.ag q57,[],[],false⟩]:=funC Tryz.func122 Tryz.call122 [(c123 n).e,(c124 n).e,(c125 n).e] [] [] [] [0] (dA n)
def c126 (n:Nat):FF Tryz.prog 126 [.i .i64,.ws 0] q75 1 1 [⟨.ag q57,[],[],false⟩]:=funC Tryz.func126 Tryz.call126 [(c127 n).e,(c128 n).e,(c125 n).e] [] [] [] [0] (du n)
def c160 (n:Nat):PF Tryz.prog 160 [.ag [.i .i64,.i .i64,.i .i64]] (.i .i64):=aw Tryz.func160 Tryz.call160 [(c112 n).e] [] [] [] (kH n)
def c130 (n:Nat):PF Tryz.prog 130 [.ag [.i .i64,.i .i64,.i .i64]] (.tp q41):=aw Tryz.func130 Tryz.call130 [(c160 n).e,(c127 n).e] [] [] [] (lw n)
def c129 (n:Nat):FF Tryz.prog 129 [.i .i64,.ws 0] q75 1 1 [⟨.ag q57,[],[],false⟩]:=funC Tryz.func129 Tryz.call129 [(c130 n).e,(c125 n).e] [] [] [] [0] (dm n)
def c59 (n:Nat):PF Tryz.prog 59 [.ag q23] (.tp [.ag q57,.i .i64]):=aw Tryz.func59 Tryz.call59 [(c21 n).e,(c90 n).e,(c91 n).e,(c92 n),(c93 n).e,(c44 n).e,(c121 n).e,(c122 n).e,(c126 n).e,(c129 n).e] [] [] [] (dt n)
def c131 (n:Nat):PF Tryz.prog 131 [.i .i8] (.b):=aw Tryz.func131 Tryz.call131 [] [] [] [] (js n)
def c95 (n:Nat):PF Tryz.prog 95 [.i .i8,.i .i8] (.i .i64):=aw Tryz.func95 Tryz.call95 [(c131 n).e] [] [] [] (ie n)
def c132 (n:Nat):PF Tryz.prog 132 [.i .i64] (.b):=aw Tryz.func132 Tryz.call132 [] [] [] [] (gh n)
def c96 (n:Nat):PF Tryz.prog 96 q41 (.i .i64):=aw Tryz.func96 Tryz.call96 [(c132 n).e] [] [] [] (eX n)
def Gq (n:Nat):LP Tryz.prog Tryz.f94.ntmps:=bH [] [] 0 (sb (acM [] [] Tryz.f94) 0) false ⟨[(3,.i .i64),(6,.ws 0),(7,.i .i64),(8,.i .i64)],q66,1,1,1,1⟩ [] [⟨.ret,⟨[(2,.i .i64)],[],1,1,1,1⟩⟩,⟨.exit 0,⟨[(3,.i .i64)],[],1,1,1,1⟩⟩] (mH n) n
def c94 (n:Nat):FF Tryz.prog 94 [.ws 0] q75 1 1 [⟨.i .i64,[],[],false⟩]:=funC Tryz.func94 Tryz.call94 [] [Gq n] [] [] [0] (jF n)
def c60 (n:Nat):PF Tryz.prog 60 [.ag [.i .i8,.i .i64],.ag [.i .i8,.i .i64]] (.i .i64):=aw Tryz.func60 Tryz.call60 [(c95 n).e,(c96 n).e,(c94 n).e] [] [] [] (fO n)
def c32 (n:Nat):PF Tryz.prog 32 [.ag q42,.ag q42] (.i .i64):=aw Tryz.func32 Tryz.call32 [(c58 n).e,(c59 n).e,(c60 n).e] [] [0] [] (jd n)
def c37 (n:Nat):FF Tryz.prog 37 [.p 0 0] [.cells q24] 1 1 [⟨.b,[],[],false⟩]:=funC Tryz.func37 Tryz.call37 [] [] [] [] [0] (lc n)
def c41 (n:Nat):PF Tryz.prog 41 [.ag q38] (.b):=aw Tryz.func41 Tryz.call41 [(c68 n).e] [] [] [] (iW n)
def c17 (n:Nat):PF Tryz.prog 17 [.ag q38] (.b):=aw Tryz.func17 Tryz.call17 [(c21 n).e,(c41 n).e,(c44 n).e] [] [] [] (fJ n)
def c39 (n:Nat):PF Tryz.prog 39 [.ag q38,.ag q38] (.b):=aw Tryz.func39 Tryz.call39 [(c17 n).e,(c44 n).e,(c59 n).e,(c60 n).e] [] [] [] (iG n)
def c38 (n:Nat):FF Tryz.prog 38 [.p 0 0] [.cells q24] 1 1 [⟨.b,[],[],false⟩]:=funC Tryz.func38 Tryz.call38 [(c39 n).e] [] [] [] [0] (kS n)
def c40 (n:Nat):FF Tryz.prog 40 [.p 0 0,.p 1 0] [.cells [.i .u8],.cells q24] 2 2 [⟨.b,[],[],false⟩]:=funC Tryz.func40 Tryz.call40 [(c41 n).e] [] [] [] [0,1] (kM n)
def c36 (n:Nat):FF Tryz.prog 36 [.sl 0 0 3 (some (.k 3))] [.cells [.i .i64,.fn 37 [.p 1 0],.i .i64,.fn 38 [.p 1 0],.i .i64,.fn 40 [.p 2 0,.p 1 0]],.cells q24,.cells [.i .u8]] 3 3 [⟨.i .i64,[],[],false⟩]:=funC Tryz.func36 Tryz.call36 [(c37 n).e,(c38 n).e,(c40 n).e] [] [0] [] [0,1,2] (cg n)
def c15 (n:Nat):PF Tryz.prog 15 [.ag q24,.i .u8] (.i .i64):=aw Tryz.func15 Tryz.call15 [(c21 n).e,(c36 n).e] [] [] [] (cq n)
def c61 (n:Nat):FF Tryz.prog 61 [.p 0 0,.p 1 0] [.cells q24,.cells q56,.rows q12] 3 3 [⟨.b,[],[],false⟩]:=funC Tryz.func61 Tryz.call61 [(c15 n).e] [] [] [] [0,1,2] (jW n)
def c63 (n:Nat):PF Tryz.prog 63 [.ag q24] (.b):=aw Tryz.func63 Tryz.call63 [(c17 n).e] [] [] [] (kU n)
def c62 (n:Nat):FF Tryz.prog 62 [.p 0 0,.p 1 0,.p 2 0] [.cells q21,.cells [.i .i64],.cells q24,.rows q12] 4 4 [⟨.b,[],[],false⟩]:=funC Tryz.func62 Tryz.call62 [(c63 n).e] [] [] [] [0,1,2,3] (jT n)
def c64 (n:Nat):FF Tryz.prog 64 [.p 0 0,.p 1 0,.p 2 0,.p 3 0] [.cells q18,.cells [.i .i64],.cells [.i .i64],.cells q24,.rows q12] 5 5 [⟨.b,[],[],false⟩]:=funC Tryz.func64 Tryz.call64 [(c63 n).e] [] [] [] [0,1,2,3,4] (kr n)
def c65 (n:Nat):FF Tryz.prog 65 [.p 0 0,.p 1 0] [.cells q56,.cells [.i .i64],.rows q12] 3 3 [⟨.b,[],[],false⟩]:=funC Tryz.func65 Tryz.call65 [] [] [] [] [0,1,2] (kx n)
def F3 (n:Nat):FF Tryz.prog 36 [.sl 0 0 4 (some (.k 4))] [.cells [.i .i64,.fn 61 [.p 1 0,.p 2 0],.i .i64,.fn 62 [.p 2 0,.p 3 0,.p 1 0],.i .i64,.fn 64 [.p 2 0,.p 3 0,.p 4 0,.p 1 0],.i .i64,.fn 65 [.p 2 0,.p 4 0]],.cells q24,.cells q26,.cells [.i .i64],.cells [.i .i64],.rows q12] 6 6 [⟨.i .i64,[],[],false⟩]:=funC Tryz.func36 Tryz.call36 [(c61 n).e,(c62 n).e,(c64 n).e,(c65 n).e] [] [0] [] [0,1,2,3,4,5] (fq n)
def c33E (n:Nat):List (FE Tryz.prog):=[(c15 n).e,(F3 n).e]
def GT (n:Nat):LP Tryz.prog Tryz.f33.ntmps:=bH (c33E n) [] 0 (sb (acM [] [] Tryz.f33) 0) true ⟨[(1,.p 1 0),(4,.p 2 0),(13,.ws 0),(14,.i .i64),(15,.i .i64)],[(0,.rows q12),(1,.cells q15),(2,.cells [.i .i64])],3,1,1,1⟩ [] q78 (eA n) n
def c33 (n:Nat):FF Tryz.prog 33 [.ag q15] q88 1 1 [⟨.tp q41,[],[],false⟩]:=funC Tryz.func33 Tryz.call33 (c33E n) [GT n] [] [] [0] (jY n)
def c11 (n:Nat):FF Tryz.prog 11 [.ag q15] q88 1 1 [⟨.tp q41,[],[],false⟩]:=funC Tryz.func11 Tryz.call11 [(c31 n).e,(c21 n).e,(c32 n).e,(c33 n).e] [] [] [] [0] (eM n)
def c46 (n:Nat):FF Tryz.prog 46 [.ws 0] [.rows q36] 1 1 [⟨.rs 10 0 0 .q (some .q),[],[],false⟩]:=funC Tryz.func46 Tryz.call46 [] [] [] [] [0] (am n)
def c19E (n:Nat):List (FE Tryz.prog):=[(c46 n).e]
def GQ (n:Nat):LP Tryz.prog Tryz.f19.ntmps:=bH (c19E n) [] 1 (sb (acM [0] [] Tryz.f19) 1) true ⟨[(3,.ws 1),(40,.ws 0),(41,.i .i64),(42,.i .i64)],[(0,.rows q12),(1,.rows q36)],2,1,1,1⟩ [] [⟨.exit 3,⟨[(3,.ws 1)],[(1,.rows q36)],2,1,1,1⟩⟩] (dp n) n
def c19 (n:Nat):FF Tryz.prog 19 [.ag q15] q88 1 1 [⟨.rs 10 1 0 .q (some .q),[(1,.rows q36)],[1],false⟩]:=funC Tryz.func19 Tryz.call19 (c19E n) [GQ n] [0] [] [0] (jc n)
def c8 (n:Nat):FF Tryz.prog 8 [.ag q15] q88 1 1 [⟨.i .i64,[],[],false⟩]:=funC Tryz.func8 Tryz.call8 [(c11 n).e] [] [] [] [0] (gH n)
def c7 (n:Nat):PF Tryz.prog 7 [] (.b):=aw Tryz.func7 Tryz.call7 [(c30 n).e,(c11 n).e,(c19 n).e,(c8 n).e,(c15 n).e] [] [] [] (cZ n)
def c18 (n:Nat):PF Tryz.prog 18 [.ag q38] (.i .i64):=aw Tryz.func18 Tryz.call18 [(c34 n).e,(c22 n).e,(c45 n).e] [] [] [] (aE n)
def c16 (n:Nat):PF Tryz.prog 16 [.ag q24,.b] (.i .i64):=aw Tryz.func16 Tryz.call16 [(c34 n).e,(c18 n).e,(c42 n).e,(c43 n).e,(c22 n).e] [] [] [] (cR n)
def c12E (n:Nat):List (FE Tryz.prog):=[(c34 n).e,(c26 n).e,(c16 n).e,(c18 n).e]
def Gj (n:Nat):LP Tryz.prog Tryz.f12.ntmps:=cE (c12E n) [] 1003 (sb (acM [] [3,4,7,32,33] Tryz.f12) 1003) true ⟨[(1,.p 1 0),(4,.p 2 0),(5,.p 3 0)],q25,4,1,1,1⟩ [⟨.nrm,q70⟩] (ee n)
def GJ (n:Nat):LP Tryz.prog Tryz.f12.ntmps:=cE (c12E n) [] 1004 (sb (acM [] [3,4,7,32,33] Tryz.f12) 1004) true q70 [⟨.nrm,⟨[(1,.p 1 0),(4,.p 2 0),(5,.p 3 0),(6,.b),(31,.b)],q25,4,1,1,1⟩⟩] (dV n)
def FY (n:Nat):LP Tryz.prog Tryz.f12.ntmps:=cE (c12E n) [] 1007 (sb (acM [] [3,4,7,32,33] Tryz.f12) 1007) true q70 [⟨.nrm,⟨[(1,.p 1 0),(75,.b)],q85,2,1,1,1⟩⟩] (d7 n)
def ES (n:Nat):LP Tryz.prog Tryz.f12.ntmps:=cE (c12E n) [] 1032 (sb (sb (acM [] [3,4,7,32,33] Tryz.f12) 0).body 1032) true ⟨[(1,.p 1 0),(7,.i .i64),(8,.p 2 0)],q98,3,1,1,1⟩ [⟨.nrm,q69⟩] (dG n)
def Ez (n:Nat):LP Tryz.prog Tryz.f12.ntmps:=cE (c12E n) [] 1033 (sb (sb (acM [] [3,4,7,32,33] Tryz.f12) 0).body 1033) true q69 [⟨.nrm,⟨[(1,.p 1 0),(7,.i .i64),(154,.b)],q85,2,1,1,1⟩⟩] (dJ n)
def Ge (n:Nat):LP Tryz.prog Tryz.f12.ntmps:=bH (c12E n) [ES n,Ez n] 0 (sb (acM [] [3,4,7,32,33] Tryz.f12) 0) true ⟨[(1,.p 1 0),(7,.i .i64)],q85,2,1,1,1⟩ [] q78 (cb n) n
def c12 (n:Nat):FF Tryz.prog 12 [.ag q15] q88 1 1 [⟨.tp q41,[],[],false⟩]:=funC Tryz.func12 Tryz.call12 (c12E n) [Gj n,GJ n,FY n,Ge n] [] [3,4,7,32,33] [0] (fB n)
def c10 (n:Nat):FF Tryz.prog 10 [.ag q15,.ag [.i .u8,.i .u8,.bd,.b,.s,.i .i64,.i .i64,.s,.s,.i .u8,.i .u8,.i .u8]] q88 1 1 [⟨.ag q28,[(1,.rows q12)],[1],false⟩]:=funC Tryz.func10 Tryz.call10 [] [] [] [] [0] (ga n)
def Gv (n:Nat):LP Tryz.prog Tryz.f35.ntmps:=bH [] [] 0 (sb (acM [] [] Tryz.f35) 0) false ⟨[(0,.ws 0),(1,.ws 1),(12,.i .i64),(13,.i .i64)],[(0,.rows q12),(1,.rows q12)],2,2,2,2⟩ [] [⟨.ret,q87⟩,⟨.exit 0,⟨[],[],2,2,2,2⟩⟩] (az n) n
def c35 (n:Nat):FF Tryz.prog 35 [.ws 0,.ws 1] [.rows q12,.rows q12] 2 2 [⟨.b,[],[],false⟩]:=funC Tryz.func35 Tryz.call35 [] [Gv n] [] [] [0,1] (bv n)
def c13 (n:Nat):FF Tryz.prog 13 [.ag q15,.ag q28] [.rows q12,.rows q12] 2 2 [⟨.b,[],[],false⟩]:=funC Tryz.func13 Tryz.call13 [(c35 n).e] [] [] [] [0,1] (lu n)
def F7 (n:Nat):LP Tryz.prog Tryz.f14.ntmps:=bH [] [] 0 (sb (acM [] [] Tryz.f14) 0) true ⟨[(2,.p 2 0),(3,.p 3 0),(5,.i .i64)],[(0,.rows q12),(1,.rows q12),(2,.cells q15),(3,.cells q28)],4,2,2,2⟩ [] [⟨.ret,⟨q76,[],2,2,2,2⟩⟩,⟨.exit 0,⟨[],[],2,2,2,2⟩⟩] (cA n) n
def c14 (n:Nat):FF Tryz.prog 14 [.ag q15,.ag q28] [.rows q12,.rows q12] 2 2 [⟨.i .i64,[],[],false⟩]:=funC Tryz.func14 Tryz.call14 [] [F7 n] [] [] [0,1] (fU n)
def Gw (n:Nat):LP Tryz.prog Tryz.f20.ntmps:=bH [] [] 0 (sb (acM [] [] Tryz.f20) 0) true ⟨[(1,.p 1 0),(3,.ws 2),(4,.i .i64)],[(0,.rows q12),(1,.cells q15),(2,.rows q36)],3,1,1,1⟩ [] [⟨.exit 0,⟨[(3,.ws 1)],[(1,.rows q36)],2,1,1,1⟩⟩] (aj n) n
def c20 (n:Nat):FF Tryz.prog 20 [.ag q15] q88 1 1 [⟨.ws 1,[(1,.rows q36)],[1],false⟩]:=funC Tryz.func20 Tryz.call20 [] [Gw n] [] [] [0] (fC n)
def c4E (n:Nat):List (FE Tryz.prog):=[(c6 n).e,(c7 n).e,(c10 n).e,(c11 n).e,(c12 n).e,(c8 n).e,(c13 n).e,(c14 n).e,(c15 n).e,(c16 n).e,(c17 n).e,(c18 n).e,(c19 n).e,(c20 n).e]
def c4l0 (n:Nat):LP Tryz.prog Tryz.f4.ntmps:=bH (c4E n) [] 0 (sb (acM [] [] Tryz.f4) 0) true ⟨[(1,.ws 1),(2,.p 2 0),(5,.p 3 0),(6,.i .i64)],[(0,.rows q13),(1,.rows q82),(2,.cells q58),(3,.cells q18),(4,.rows q12)],5,2,2,2⟩ [] [⟨.ret,q87⟩,⟨.exit 0,⟨[(2,.p 2 0),(5,.p 3 0)],[(0,.rows q13),(2,.cells q58),(3,.cells q18),(4,.rows q12)],5,2,2,2⟩⟩] (av n) n
def c4l1 (n:Nat):LP Tryz.prog Tryz.f4.ntmps:=bH (c4E n) [] 1 (sb (acM [] [] Tryz.f4) 1) true ⟨[(5,.p 2 0),(11,.i .i64)],q86,4,2,2,2⟩ [] [⟨.ret,q87⟩,⟨.exit 2,⟨[(5,.p 2 0)],q86,4,2,2,2⟩⟩] (bj n) n
def c4l2 (n:Nat):LP Tryz.prog Tryz.f4.ntmps:=bH (c4E n) [] 2 (sb (acM [] [] Tryz.f4) 2) true ⟨[(5,.p 2 0),(12,.rs 10 3 0 .q (some .q)),(13,.ws 4),(14,.i .i64)],[(2,.cells q26),(3,.rows q36),(4,.rows q36),(5,.rows q12)],6,2,2,2⟩ [] [⟨.ret,q87⟩,⟨.exit 4,⟨[(5,.p 2 0)],q86,4,2,2,2⟩⟩] (bi n) n
def c4 (n:Nat):FF Tryz.prog 4 [.ag q58,.ws 1] [.rows q13,.rows q82] 2 2 [⟨.b,[],[],false⟩]:=funC Tryz.func4 Tryz.call4 (c4E n) [c4l0 n,c4l1 n,c4l2 n] [] [] [0,1] (eS n)
end
end Go.Sh
