/- Each function of the program computes its plain function: the certificates.
   Conditions: none. Printed by the bench tool gen.py. -/
import Derived.Test.YtlampgohpnchdaaGreatDoorShE
import Derived.Test.YtlampgohpnchdaaGreatDoorProg
import Derived.Test.YtlampgohpnchdaaGreatDoorAbsX
import Derived.Test.YtlampgohpnchdaaGreatDoorAbsU
import Derived.Test.YtlampgohpnchdaaGreatDoorAbsW
import Derived.KernelRfl
import Derived.Test.YtlampgohpnchdaaGreatDoorAbsPat
import Derived.Test.YtlampgohpnchdaaGreatDoorShelf
import Derived.Test.YtlampgohpnchdaaGreatDoorHGa
import Derived.Test.YtlampgohpnchdaaGreatDoorHGb
import Derived.Test.YtlampgohpnchdaaGreatDoorHGe
import Derived.Test.YtlampgohpnchdaaGreatDoorHGm
import Derived.Test.YtlampgohpnchdaaGreatDoorHGs
set_option linter.unusedVariables false
set_option linter.unusedSimpArgs false
set_option maxRecDepth 100000
set_option maxHeartbeats 4000000
namespace Go.Sh
open Go.Abs Go.Proofs
noncomputable section
abbrev q40:List PV:=[.i .i64,.i .i64]
abbrev q32:List PV:=[.b,.b,.s,.i .i64,.i .i64]
abbrev q44:List PV:=[.i .u8,.b,.i .u16,.i .u8,.i .u8,.i .u8,.i .u8,.i .u8,.i .u8,.i .u8]
abbrev q22:List PV:=[.b,.b,.s,.i .i64,.i .i64,.s,.s,.i .u8,.i .u8,.i .u8]
abbrev q78:PSt:=⟨[(2,.i .i64)],[],1,0,0,0⟩
abbrev q86:PSt:=⟨[],[],1,0,0,0⟩
abbrev q41:List PV:=[.i .u8,.b,.b,.s,.i .i64,.i .i64,.s,.s,.i .u8,.i .u8,.i .u8]
abbrev q94:PSt:=⟨[(0,.s),(1,.i .i64),(5,.i .i64)],[],0,0,0,0⟩
abbrev q79:PSt:=⟨[(4,.i .i64)],[],0,0,0,0⟩
abbrev q80:PSt:=⟨[(4,.i .i64)],[],1,0,0,0⟩
abbrev q82:List (Nat×PB):=[(0,.cells q32)]
abbrev q64:List (Nat×PB):=[(0,.rows [.i .i64])]
abbrev q58:List (Nat×PB):=[(0,.cells q22),(1,.rows [.i .i64]),(2,.rows [.i .i64,.i .i64,.i .i64])]
abbrev q81:PSt:=⟨[(1,.i .i64),(2,.p 0 0),(5,.ws 2),(6,.ws 1),(7,.i .i64)],q58,3,0,0,0⟩
abbrev q62:PSt:=⟨[(0,.i .i64),(4,.i .i64),(5,.b)],[],0,0,0,0⟩
abbrev q63:PSt:=⟨[(0,.i .i64),(4,.i .i64),(9,.b)],[],0,0,0,0⟩
abbrev q60:PSt:=⟨[(0,.i .i64),(4,.i .i64),(13,.b)],[],0,0,0,0⟩
abbrev q61:PSt:=⟨[(0,.i .i64),(4,.i .i64),(17,.b)],[],0,0,0,0⟩
abbrev q48:PSt:=⟨[(0,.i .i64),(4,.i .i64),(21,.b)],[],0,0,0,0⟩
abbrev q87:PSt:=⟨[(0,.i .i64),(4,.i .i64),(30,.b)],[],0,0,0,0⟩
abbrev q96:List PX:=[⟨.nrm,⟨[(0,.i .i64),(30,.b)],[],0,0,0,0⟩⟩]
abbrev q65:PSt:=⟨[(0,.i .i64),(1,.i .i64),(5,.i .i64),(6,.i .i64)],[],0,0,0,0⟩
abbrev q77:List PX:=[⟨.exit 0,⟨[(5,.i .i64)],[],0,0,0,0⟩⟩]
abbrev q37:List PV:=[.bd,.b,.s,.i .i64,.i .i64,.s,.s,.i .u8,.i .u8,.i .u8]
abbrev q24:List PV:=[.bd,.b,.s,.i .i64,.i .i64,.s,.s,.i .u8,.i .u8,.i .u8,.b,.bd,.b,.s,.i .i64,.i .i64,.s,.s,.i .u8,.i .u8,.i .u8]
abbrev q13:List Lf:=[.i .u8,.bo,.i .u16,.i .u8,.i .u8,.i .u8,.i .u8,.i .u8,.i .u8,.i .u8,.i .u8,.i .u8,.bo,.i .u16,.i .u8,.i .u8,.i .u8,.i .u8,.i .u8,.i .u8,.i .u8]
abbrev q70:List PV:=[.i .u8,.ws 0,.i .u8,.i .u8,.i .u8]
abbrev q16:List PV:=[.ik .u8 0,.bk false,.bk false,.sk [],.ik .i64 0,.ik .i64 0,.sk [],.sk [],.ik .u8 0,.ik .u8 0,.ik .u8 0,.ik .u8 0,.bk false,.bk false,.sk [],.ik .i64 0,.ik .i64 0,.sk [],.sk [],.ik .u8 0,.ik .u8 0,.ik .u8 0,.ik .u8 0,.bk false,.bk false,.sk [],.ik .i64 0,.ik .i64 0,.sk [],.sk [],.ik .u8 0,.ik .u8 0,.ik .u8 0,.ws 3,.bk false,.bk false]
abbrev q12:List Lf:=[.bo,.bo,.s,.i .i64,.i .i64,.s,.s,.i .u8,.i .u8,.i .u8,.bo,.bo,.bo,.s,.i .i64,.i .i64,.s,.s,.i .u8,.i .u8,.i .u8]
abbrev q29:List (Nat×PB):=[(0,.rows q13),(1,.cells q70),(2,.cells q16),(3,.rows q12)]
abbrev q14:List PV:=[.ik .u8 0,.bk false,.bk false,.sk [],.ik .i64 0,.ik .i64 0,.sk [],.sk [],.ik .u8 0,.ik .u8 0,.ik .u8 0,.ik .u8 0,.bk false,.bk false,.sk [],.ik .i64 0,.ik .i64 0,.sk [],.sk [],.ik .u8 0,.ik .u8 0,.ik .u8 0,.ik .u8 0,.bk false,.bk false,.sk [],.ik .i64 0,.ik .i64 0,.sk [],.sk [],.ik .u8 0,.ik .u8 0,.ik .u8 0,.ws 4,.bk false,.bk false]
abbrev q30:List (Nat×PB):=[(0,.rows q13),(1,.cells q70),(2,.cells q14),(3,.rows q13),(4,.rows q12)]
abbrev q46:PSt:=⟨[(1,.p 1 0),(2,.p 2 0),(3,.rs 21 3 0 .q none),(23,.i .u8),(24,.b)],q30,5,1,1,1⟩
abbrev q47:PSt:=⟨[(1,.p 1 0),(2,.p 2 0),(3,.rs 21 0 0 .q none),(23,.i .u8),(24,.b)],q29,4,1,1,1⟩
abbrev q27:List PV:=[.i .u8,.bd,.b,.s,.i .i64,.i .i64,.s,.s,.i .u8,.i .u8,.i .u8]
abbrev q36:List (Nat×PB):=[(1,.cells [.ik .u8 0,.bk false,.bk false,.sk [],.ik .i64 0,.ik .i64 0,.sk [],.sk [],.ik .u8 0,.ik .u8 0,.ik .u8 0,.ik .u8 0,.bk false,.bk false,.sk [],.ik .i64 0,.ik .i64 0,.sk [],.sk [],.ik .u8 0,.ik .u8 0,.ik .u8 0,.ik .u8 0,.bk false,.bk false,.sk [],.ik .i64 0,.ik .i64 0,.sk [],.sk [],.ik .u8 0,.ik .u8 0,.ik .u8 0,.ws 5,.bk false,.bk false]),(2,.rows q13),(3,.cells q27),(4,.cells q27),(5,.rows q12)]
abbrev q42:List PX:=[⟨.nrm,⟨[(2,.p 1 0),(4,.p 2 0),(5,.p 3 0)],[(1,.cells q14),(2,.cells q27),(3,.cells q27),(4,.rows q12)],5,1,1,1⟩⟩]
abbrev q75:List (Nat×PB):=[(0,.rows q13),(1,.cells q14),(2,.cells q27),(3,.cells q27),(4,.rows q12)]
abbrev q88:List (Nat×PV):=[(2,.p 1 0),(3,.rs 21 2 0 .q none),(6,.p 3 0)]
abbrev q38:List (Nat×PB):=[(1,.cells q14),(2,.rows q13),(3,.cells [.i .u8,.bk false,.bk false,.sk [],.ik .i64 0,.ik .i64 0,.sk [],.sk [],.ik .u8 0,.ik .u8 0,.ik .u8 0,.ik .u8 0,.bk false,.bk false,.sk [],.ik .i64 0,.ik .i64 0,.sk [],.sk [],.ik .u8 0,.ik .u8 0,.ik .u8 0,.ik .u8 0,.bk false,.bk false,.sk [],.ik .i64 0,.ik .i64 0,.sk [],.sk [],.ik .u8 0,.ik .u8 0,.ik .u8 0,.ws 5,.b,.b]),(4,.rows q12),(5,.rows q12)]
abbrev q89:List (Nat×PV):=[(2,.p 1 0),(3,.rs 21 0 0 .q none),(6,.p 2 0)]
abbrev q39:List (Nat×PB):=[(0,.rows q13),(1,.cells q16),(2,.cells [.i .u8,.bk false,.bk false,.sk [],.ik .i64 0,.ik .i64 0,.sk [],.sk [],.ik .u8 0,.ik .u8 0,.ik .u8 0,.ik .u8 0,.bk false,.bk false,.sk [],.ik .i64 0,.ik .i64 0,.sk [],.sk [],.ik .u8 0,.ik .u8 0,.ik .u8 0,.ik .u8 0,.bk false,.bk false,.sk [],.ik .i64 0,.ik .i64 0,.sk [],.sk [],.ik .u8 0,.ik .u8 0,.ik .u8 0,.ws 4,.b,.b]),(3,.rows q12),(4,.rows q12)]
abbrev q23:List PV:=[.i .u8,.bd,.b,.s,.i .i64,.i .i64,.s,.s,.i .u8,.i .u8,.i .u8,.i .u8,.bd,.b,.s,.i .i64,.i .i64,.s,.s,.i .u8,.i .u8,.i .u8,.i .u8,.bd,.b,.s,.i .i64,.i .i64,.s,.s,.i .u8,.i .u8,.i .u8,.ws 4,.b,.b]
abbrev q54:List PV:=[.i .u8,.bd,.b,.s,.i .i64,.i .i64,.s,.s,.i .u8,.i .u8,.i .u8,.i .u8,.bd,.b,.s,.i .i64,.i .i64,.s,.s,.i .u8,.i .u8,.i .u8,.i .u8,.bd,.b,.s,.i .i64,.i .i64,.s,.s,.i .u8,.i .u8,.i .u8,.ws 5,.b,.b]
abbrev q28:List (Nat×PB):=[(1,.cells q23),(2,.rows q13),(3,.cells q54),(4,.rows q12),(5,.rows q12)]
abbrev q26:List PV:=[.i .u8,.bd,.b,.s,.i .i64,.i .i64,.s,.s,.i .u8,.i .u8,.i .u8,.i .u8,.bd,.b,.s,.i .i64,.i .i64,.s,.s,.i .u8,.i .u8,.i .u8,.i .u8,.bd,.b,.s,.i .i64,.i .i64,.s,.s,.i .u8,.i .u8,.i .u8,.ws 3,.b,.b]
abbrev q50:List (Nat×PB):=[(0,.rows q13),(1,.cells q26),(2,.cells q23),(3,.rows q12),(4,.rows q12)]
abbrev q18:List (Nat×PB):=[(1,.cells q26),(2,.cells q23),(3,.rows q12),(4,.rows q12)]
abbrev q71:PSt:=⟨[(2,.p 1 0),(6,.p 2 0),(8,.i .i64)],q18,5,1,1,1⟩
abbrev q90:PSt:=⟨[(2,.p 1 0),(6,.p 2 0),(139,.b)],q18,5,1,1,1⟩
abbrev q49:List PV:=[.s,.i .i64,.i .i64]
abbrev q45:List (Nat×PB):=[(0,.ints .u8 3),(1,.ints .u8 3),(2,.ints .u8 3),(3,.ints .u8 3)]
abbrev q73:PSt:=⟨[(2,.i .i64),(3,.p 0 0),(4,.p 1 0),(6,.p 2 0),(7,.p 3 0),(8,.i .u8)],q45,4,0,0,0⟩
abbrev q72:List PV:=[.bk false,.bk false,.sk [],.ik .i64 0,.ik .i64 0,.sk [],.sk [],.ik .u8 0,.ik .u8 0,.ik .u8 0]
abbrev q20:List (Nat×PB):=[(0,.cells q72),(1,.ints .i64 3),(2,.cells [.sk [],.ik .i64 0,.ik .i64 0]),(3,.cells [.b,.b,.s,.i .i64,.i .i64,.s,.s,.ik .u8 0,.ik .u8 0,.ik .u8 0]),(4,.ints .i64 3),(5,.ints .u8 3),(6,.ints .u8 3),(7,.cells q49)]
abbrev q31:PSt:=⟨[(0,.s),(4,.p 0 0),(5,.p 1 0),(6,.p 2 0),(7,.p 3 0),(8,.p 4 0),(9,.p 5 0),(10,.p 6 0),(11,.p 7 0),(12,.i .i64),(13,.i .i64)],q20,8,0,0,0⟩
abbrev q69:List (Nat×PV):=[(4,.p 0 0),(5,.p 1 0),(6,.p 2 0),(7,.p 3 0),(8,.p 4 0),(9,.p 5 0),(10,.p 6 0),(11,.p 7 0),(12,.i .i64)]
abbrev q15:List PV:=[.i .u8,.bd,.b,.s,.i .i64,.i .i64,.s,.s,.i .u8,.i .u8,.i .u8,.i .u8,.bd,.b,.s,.i .i64,.i .i64,.s,.s,.i .u8,.i .u8,.i .u8,.i .u8,.bd,.b,.s,.i .i64,.i .i64,.s,.s,.i .u8,.i .u8,.i .u8,.ws 0,.b,.b]
abbrev q91:List PB:=[.rows q12]
abbrev q85:List (Nat×PV):=[(0,.s),(7,.s),(8,.i .i64),(9,.i .i64),(12,.i .i64)]
abbrev q55:List PV:=[.i .i8,.i .i64,.i .i8,.i .i64]
abbrev q34:List PV:=[.b,.b,.s,.i .i64,.i .i64,.s,.s,.i .u8,.i .u8,.i .u8,.ws 0,.ws 1]
abbrev q74:List PB:=[.rows [.i .i64]]
abbrev q59:PSt:=⟨[(0,.s),(1,.i .i64),(2,.b),(8,.i .u8),(9,.i .u8),(10,.p 0 0),(11,.p 1 0),(12,.i .i64)],[(0,.ints .u8 18),(1,.ints .u8 18)],2,0,0,0⟩
abbrev q83:List PB:=[.rows [.i .i64],.rows [.i .i64]]
abbrev q57:List (Nat×PB):=[(0,.rows [.i .i64]),(1,.rows [.i .i64]),(2,.cells q34),(3,.cells [.i .i64,.i .i64,.i .i64]),(4,.cells [.b]),(5,.cells [.ik .i64 0,.ik .i64 0,.ik .i64 0])]
abbrev q19:List (Nat×PB):=[(0,.rows [.i .i64]),(1,.rows [.i .i64]),(2,.cells q34),(3,.cells [.i .i64,.i .i64,.i .i64]),(4,.cells [.b]),(5,.cells [.i .i64,.i .i64,.i .i64]),(62,.rows [.i .i64]),(63,.rows [.i .i64])]
abbrev q21:List (Nat×PB):=[(0,.rows [.i .i64]),(1,.rows [.i .i64]),(2,.cells q34),(3,.cells [.i .i64,.i .i64,.i .i64]),(4,.cells [.b]),(5,.cells [.i .i64,.i .i64,.i .i64])]
abbrev q51:PSt:=⟨[(3,.p 2 0),(4,.p 3 0),(5,.p 4 0),(6,.p 5 0),(8,.i .i64),(9,.ws 62),(10,.ws 63),(11,.fn 83 [.p 4 0]),(12,.i .i64),(15,.i .i64),(16,.b),(17,.i .i64),(53,.ws 62),(54,.i .i64),(55,.i .i64)],q19,64,2,2,2⟩
abbrev q52:PSt:=⟨[(3,.p 2 0),(4,.p 3 0),(5,.p 4 0),(6,.p 5 0),(8,.i .i64),(9,.ws 0),(10,.ws 1),(11,.fn 83 [.p 4 0]),(12,.i .i64),(15,.i .i64),(16,.b),(17,.i .i64),(53,.ws 0),(54,.i .i64),(55,.i .i64)],q21,62,2,2,2⟩
abbrev q66:List (Nat×PV):=[(6,.p 5 0),(7,.b)]
abbrev q43:List (Nat×PB):=[(5,.cells [.i .i64,.i .i64,.i .i64])]
abbrev q92:PSt:=⟨q66,q43,64,2,2,2⟩
abbrev q33:PSt:=⟨[(3,.p 2 0),(4,.p 3 0),(5,.p 4 0),(6,.p 5 0),(8,.i .i64),(9,.ws 62),(10,.ws 63),(11,.fn 83 [.p 4 0]),(12,.i .i64),(53,.ws 62),(54,.i .i64),(55,.i .i64)],q19,64,2,2,2⟩
abbrev q93:PSt:=⟨q66,q43,62,2,2,2⟩
abbrev q35:PSt:=⟨[(3,.p 2 0),(4,.p 3 0),(5,.p 4 0),(6,.p 5 0),(8,.i .i64),(9,.ws 0),(10,.ws 1),(11,.fn 83 [.p 4 0]),(12,.i .i64),(53,.ws 0),(54,.i .i64),(55,.i .i64)],q21,62,2,2,2⟩
abbrev q53:List PV:=[.i .u8,.bd,.b,.s,.i .i64,.i .i64,.s,.s,.i .u8,.i .u8,.i .u8,.i .u8,.bd,.b,.s,.i .i64,.i .i64,.s,.s,.i .u8,.i .u8,.i .u8,.i .u8,.bd,.b,.s,.i .i64,.i .i64,.s,.s,.i .u8,.i .u8,.i .u8,.ws 2,.b,.b]
abbrev q76:List PX:=[⟨.ret,⟨[(2,.i .i64),(3,.i .i64)],[],1,1,1,1⟩⟩,⟨.exit 0,⟨[],[],1,1,1,1⟩⟩]
abbrev q56:List Lf:=[.bo,.bo,.s,.i .i64,.i .i64,.s,.s,.i .u8,.i .u8,.i .u8]
abbrev q25:List (Nat×PB):=[(0,.rows q12),(1,.cells q15),(2,.cells q72),(3,.cells [.ik .u8 0,.bk false,.bk false,.sk [],.ik .i64 0,.ik .i64 0,.sk [],.sk [],.ik .u8 0,.ik .u8 0,.ik .u8 0])]
abbrev q68:PSt:=⟨[(1,.p 1 0),(4,.p 2 0),(5,.p 3 0),(6,.b)],q25,4,1,1,1⟩
abbrev q84:List (Nat×PB):=[(0,.rows q12),(1,.cells q15)]
abbrev q95:List (Nat×PB):=[(0,.rows q12),(1,.cells q15),(2,.cells q24)]
abbrev q67:PSt:=⟨[(1,.p 1 0),(7,.i .i64),(8,.p 2 0),(10,.b),(11,.b)],q95,3,1,1,1⟩
def c86 (n:Nat):PF Tryz.prog 86 [.i .u16] (.s):=au Tryz.func86 Tryz.call86 [] [] [] [] (fJ n)
def Fe (n:Nat):LP Tryz.prog Tryz.f113.ntmps:=bS [] [] 0 (sb (acM [] [] Tryz.f113) 0) false ⟨[(0,.s),(1,.i .u8),(2,.i .u8),(7,.i .i64),(8,.i .i64)],[],0,0,0,0⟩ [] [⟨.exit 0,⟨[(7,.i .i64)],[],0,0,0,0⟩⟩] (dH n) n
def c113 (n:Nat):PF Tryz.prog 113 [.s,.i .u8,.i .u8] (.i .i64):=au Tryz.func113 Tryz.call113 [] [Fe n] [] [] (dk n)
def F1 (n:Nat):LP Tryz.prog Tryz.f69.ntmps:=bS [] [] 0 (sb (acM [] [] Tryz.f69) 0) false ⟨[(0,.s),(1,.i .i64),(6,.i .i64),(7,.i .i64)],[],0,0,0,0⟩ [] [⟨.ret,⟨[(4,.i .i64),(5,.i .i64)],[],0,0,0,0⟩⟩,⟨.exit 0,⟨[(6,.i .i64)],[],0,0,0,0⟩⟩] (cI n) n
def c69 (n:Nat):PF Tryz.prog 69 [.s,.i .i64] (.tp q40):=au Tryz.func69 Tryz.call69 [] [F1 n] [] [] (ad n)
def c87 (n:Nat):PF Tryz.prog 87 [.ag q32] (.i .i64):=au Tryz.func87 Tryz.call87 [(c113 n).e,(c69 n).e] [] [] [] (bj n)
def c52E (n:Nat):List (FE Tryz.prog):=[(c86 n).e,(c87 n).e]
def FV (n:Nat):LP Tryz.prog Tryz.f52.ntmps:=bS (c52E n) [] 0 (sb (acM [] [] Tryz.f52) 0) false ⟨[(2,.p 1 0),(3,.p 50 0),(4,.i .i64),(5,.i .i64),(6,.s),(7,.i .i64)],[(1,.cells q32),(50,.cells q32)],162,0,0,0⟩ [] [⟨.exit 1,⟨[(2,.p 1 0),(3,.p 50 0),(6,.s)],[(1,.cells q32),(50,.cells q32)],162,0,0,0⟩⟩] (db n) n
def c52 (n:Nat):PF Tryz.prog 52 [.ag [.i .u8,.b,.i .u16,.i .u8,.i .u8]] (.ag q32):=au Tryz.func52 Tryz.call52 (c52E n) [FV n] [] [] (eH n)
def c75 (n:Nat):PF Tryz.prog 75 [.i .i64] (.s):=au Tryz.func75 Tryz.call75 [] [] [] [] (ax n)
def c53 (n:Nat):PF Tryz.prog 53 [.ag q44] (.s):=au Tryz.func53 Tryz.call53 [(c75 n).e] [] [] [] (cW n)
def c45E (n:Nat):List (FE Tryz.prog):=[(c75 n).e]
def Fw (n:Nat):LP Tryz.prog Tryz.f45.ntmps:=bS (c45E n) [] 0 (sb (acM [] [] Tryz.f45) 0) false ⟨[(1,.p 0 0),(3,.i .i64)],[(0,.cells q22)],1,0,0,0⟩ [] [⟨.ret,q78⟩,⟨.exit 0,q86⟩] (aK n) n
def c45 (n:Nat):PF Tryz.prog 45 [.ag q22] (.i .i64):=au Tryz.func45 Tryz.call45 (c45E n) [Fw n] [] [] (ar n)
def c54 (n:Nat):PF Tryz.prog 54 [.ag q44,.s] (.s):=au Tryz.func54 Tryz.call54 [(c75 n).e] [] [] [] (ec n)
def c42 (n:Nat):PF Tryz.prog 42 [.ag q22] (.i .i64):=au Tryz.func42 Tryz.call42 [] [] [] [] (ab n)
def c24 (n:Nat):PF Tryz.prog 24 [.ag q44] (.ag q22):=au Tryz.func24 Tryz.call24 [(c52 n).e,(c53 n).e,(c45 n).e,(c54 n).e,(c42 n).e] [] [0] [] (ak n)
def c27 (n:Nat):PF Tryz.prog 27 [.ag q44] (.ag q22):=au Tryz.func27 Tryz.call27 [(c24 n).e] [] [] [] (aH n)
def c25 (n:Nat):PF Tryz.prog 25 [.ag [.i .u8,.i .u8,.b,.i .u16,.i .u8,.i .u8,.i .u8,.i .u8,.i .u8,.i .u8,.i .u8]] (.ag q41):=au Tryz.func25 Tryz.call25 [(c27 n).e] [] [] [] (aX n)
def c133 (n:Nat):PF Tryz.prog 133 [.ag q32] (.i .i64):=au Tryz.func133 Tryz.call133 [(c113 n).e] [] [] [] (aj n)
def c97 (n:Nat):PF Tryz.prog 97 [.ag q22] (.i .i64):=au Tryz.func97 Tryz.call97 [(c87 n).e,(c45 n).e,(c133 n).e,(c69 n).e] [] [] [] (eC n)
def c134 (n:Nat):PF Tryz.prog 134 [.s,.i .i64] (.i .i64):=au Tryz.func134 Tryz.call134 [(c75 n).e] [] [] [] (bV n)
def c98E (n:Nat):List (FE Tryz.prog):=[(c134 n).e]
def FR (n:Nat):LP Tryz.prog Tryz.f98.ntmps:=bS (c98E n) [] 0 (sb (acM [] [] Tryz.f98) 0) false q94 [] [⟨.ret,q79⟩,⟨.exit 0,⟨[],[],0,0,0,0⟩⟩] (bN n) n
def c98 (n:Nat):PF Tryz.prog 98 [.s,.i .i64] (.i .i64):=au Tryz.func98 Tryz.call98 (c98E n) [FR n] [] [] (bL n)
def Fs (n:Nat):LP Tryz.prog Tryz.f99.ntmps:=bS [] [] 0 (sb (acM [] [] Tryz.f99) 0) false ⟨[(1,.i .i64),(2,.p 0 0),(5,.i .i64)],[(0,.ints .u8 3)],1,0,0,0⟩ [] [⟨.ret,q80⟩,⟨.exit 0,q86⟩] (bH n) n
def c99 (n:Nat):PF Tryz.prog 99 [.ai .u8 3,.i .i64] (.i .i64):=au Tryz.func99 Tryz.call99 [] [Fs n] [] [] (aQ n)
def c66 (n:Nat):PF Tryz.prog 66 [.ag q22] (.i .i64):=au Tryz.func66 Tryz.call66 [(c97 n).e,(c45 n).e,(c98 n).e,(c42 n).e,(c99 n).e] [] [] [] (ed n)
def Ct (n:Nat):List (FE Tryz.prog):=[(c133 n).e,(c69 n).e]
def DA (n:Nat):LP Tryz.prog Tryz.f100.ntmps:=bS (Ct n) [] 0 (sb (acM [] [] Tryz.f100) 0) false ⟨[(1,.p 0 0),(4,.s),(5,.s),(6,.i .i64)],q82,1,0,0,0⟩ [] [⟨.exit 0,⟨[(1,.p 0 0),(4,.s),(5,.s)],q82,1,0,0,0⟩⟩] (cZ n) n
def EM (n:Nat):LP Tryz.prog Tryz.f100.ntmps:=bS (Ct n) [] 1 (sb (acM [] [] Tryz.f100) 1) false ⟨[(1,.p 0 0),(4,.s),(5,.s),(9,.i .i64)],q82,1,0,0,0⟩ [] [⟨.exit 2,⟨[(1,.p 0 0),(4,.s),(5,.s)],q82,1,0,0,0⟩⟩] (iY n) n
def c100 (n:Nat):PF Tryz.prog 100 [.ag q32] (.tp q40):=au Tryz.func100 Tryz.call100 (Ct n) [DA n,EM n] [] [] (am n)
def DL (n:Nat):List (FE Tryz.prog):=[(c133 n).e,(c69 n).e]
def EO (n:Nat):LP Tryz.prog Tryz.f101.ntmps:=bS (DL n) [] 0 (sb (acM [] [] Tryz.f101) 0) false ⟨[(1,.i .i64),(2,.p 0 0),(5,.i .i64)],q82,1,0,0,0⟩ [] [⟨.ret,q80⟩,⟨.exit 0,⟨[(1,.i .i64)],[],1,0,0,0⟩⟩] (aN n) n
def c101 (n:Nat):PF Tryz.prog 101 [.ag q32,.i .i64] (.i .i64):=au Tryz.func101 Tryz.call101 (DL n) [EO n] [] [] (ip n)
def Ec (n:Nat):List (FE Tryz.prog):=[(c45 n).e,(c134 n).e]
def Ew (n:Nat):LP Tryz.prog Tryz.f135.ntmps:=bS (Ec n) [] 0 (sb (acM [] [] Tryz.f135) 0) false ⟨[(1,.p 0 0),(3,.ws 1),(4,.i .i64)],[(0,.cells q22),(1,.rows [.i .i64])],2,0,0,0⟩ [.nilT 3 1 [.i .i64]] [⟨.exit 0,⟨[(3,.ws 1)],[(1,.rows [.i .i64])],2,0,0,0⟩⟩] (bP n) n
def c135 (n:Nat):FF Tryz.prog 135 [.ag q22] [] 0 0 [⟨.ws 0,q64,[0],false⟩]:=funC Tryz.func135 Tryz.call135 (Ec n) [Ew n] [] [] [] (eV n)
def c104 (n:Nat):PF Tryz.prog 104 q40 (.i .i64):=au Tryz.func104 Tryz.call104 [] [] [] [] (ca n)
def C8 (n:Nat):List (FE Tryz.prog):=[(c135 n).e,(c104 n).e,(c134 n).e]
def Dw (n:Nat):LP Tryz.prog Tryz.f102.ntmps:=bS (C8 n) [] 1 (sb (sb (acM [] [] Tryz.f102) 0).body 1) false ⟨[(1,.i .i64),(2,.p 0 0),(5,.ws 2),(6,.ws 1),(7,.i .i64),(8,.i .i64)],q58,3,0,0,0⟩ [] [⟨.exit 2,q81⟩] (cn n) n
def DZ (n:Nat):LP Tryz.prog Tryz.f102.ntmps:=bS (C8 n) [Dw n] 0 (sb (acM [] [] Tryz.f102) 0) false q81 [.nilT 5 2 [.i .i64,.i .i64,.i .i64]] [⟨.exit 0,⟨[(5,.ws 2)],[(2,.rows [.i .i64,.i .i64,.i .i64])],3,0,0,0⟩⟩] (ck n) n
def c102 (n:Nat):FF Tryz.prog 102 [.ag q22,.i .i64] [] 0 0 [⟨.ws 0,[(0,.rows [.i .i64,.i .i64,.i .i64])],[0],false⟩]:=funC Tryz.func102 Tryz.call102 (C8 n) [DZ n] [] [] [] (fZ n)
def c67E (n:Nat):List (FE Tryz.prog):=[(c100 n).e,(c101 n).e,(c102 n).e]
def FL (n:Nat):LP Tryz.prog Tryz.f67.ntmps:=bS (c67E n) [] 0 (sb (acM [] [] Tryz.f67) 0) false ⟨[(1,.p 0 0),(4,.i .i64),(5,.i .i64)],[(0,.cells q22)],1,0,0,0⟩ [] [⟨.ret,q78⟩,⟨.exit 0,q86⟩] (dc n) n
def c67 (n:Nat):PF Tryz.prog 67 [.ag q22] (.i .i64):=au Tryz.func67 Tryz.call67 (c67E n) [FL n] [] [] (fS n)
def c34 (n:Nat):PF Tryz.prog 34 [.ag q22] (.i .i64):=au Tryz.func34 Tryz.call34 [(c66 n).e,(c67 n).e] [] [] [] (aM n)
def Fl (n:Nat):LP Tryz.prog Tryz.f22.ntmps:=bS [] [] 0 (sb (acM [] [] Tryz.f22) 0) false ⟨[(1,.p 0 0),(3,.s),(4,.i .i64)],[(0,.cells q22)],1,0,0,0⟩ [] [⟨.ret,q78⟩,⟨.exit 0,⟨[(1,.p 0 0)],[(0,.cells q22)],1,0,0,0⟩⟩] (bX n) n
def c22 (n:Nat):PF Tryz.prog 22 [.ag q22] (.i .i64):=au Tryz.func22 Tryz.call22 [] [Fl n] [] [] (aE n)
def c55 (n:Nat):PF Tryz.prog 55 [.ag q41] (.i .i64):=au Tryz.func55 Tryz.call55 [(c34 n).e,(c22 n).e] [] [] [] (cr n)
def c70E (n:Nat):List (FE Tryz.prog):=[(c104 n).e]
def FQ (n:Nat):LP Tryz.prog Tryz.f70.ntmps:=bS (c70E n) [] 0 (sb (acM [] [] Tryz.f70) 0) false ⟨[(0,.i .i64),(4,.i .i64),(5,.i .i64)],[],0,0,0,0⟩ [] [⟨.exit 0,q79⟩] (bp n) n
def c70 (n:Nat):PF Tryz.prog 70 [.i .i64] (.i .i64):=au Tryz.func70 Tryz.call70 (c70E n) [FQ n] [] [] (aW n)
def FG (n:Nat):LP Tryz.prog Tryz.f71.ntmps:=ct [] [] 1006 (sb (sb (acM [] [4,6,11,13,18,20,25,27,32,34,36,41,43] Tryz.f71) 1004) 1006) false q62 [⟨.nrm,q62⟩] (g9 n)
def F0 (n:Nat):LP Tryz.prog Tryz.f71.ntmps:=ct [] [FG n] 1004 (sb (acM [] [4,6,11,13,18,20,25,27,32,34,36,41,43] Tryz.f71) 1004) false q62 [⟨.nrm,q62⟩] (hZ n)
def D9 (n:Nat):LP Tryz.prog Tryz.f71.ntmps:=ct [] [] 1013 (sb (sb (acM [] [4,6,11,13,18,20,25,27,32,34,36,41,43] Tryz.f71) 1011) 1013) false q63 [⟨.nrm,q63⟩] (gF n)
def D2 (n:Nat):LP Tryz.prog Tryz.f71.ntmps:=ct [] [D9 n] 1011 (sb (acM [] [4,6,11,13,18,20,25,27,32,34,36,41,43] Tryz.f71) 1011) false q63 [⟨.nrm,q63⟩] (gG n)
def Ed (n:Nat):LP Tryz.prog Tryz.f71.ntmps:=ct [] [] 1020 (sb (sb (acM [] [4,6,11,13,18,20,25,27,32,34,36,41,43] Tryz.f71) 1018) 1020) false q60 [⟨.nrm,q60⟩] (gY n)
def Ef (n:Nat):LP Tryz.prog Tryz.f71.ntmps:=ct [] [Ed n] 1018 (sb (acM [] [4,6,11,13,18,20,25,27,32,34,36,41,43] Tryz.f71) 1018) false q60 [⟨.nrm,q60⟩] (gV n)
def EK (n:Nat):LP Tryz.prog Tryz.f71.ntmps:=ct [] [] 1027 (sb (sb (acM [] [4,6,11,13,18,20,25,27,32,34,36,41,43] Tryz.f71) 1025) 1027) false q61 [⟨.nrm,q61⟩] (gQ n)
def ET (n:Nat):LP Tryz.prog Tryz.f71.ntmps:=ct [] [EK n] 1025 (sb (acM [] [4,6,11,13,18,20,25,27,32,34,36,41,43] Tryz.f71) 1025) false q61 [⟨.nrm,q61⟩] (gJ n)
def Fa (n:Nat):LP Tryz.prog Tryz.f71.ntmps:=ct [] [] 1036 (sb (sb (sb (acM [] [4,6,11,13,18,20,25,27,32,34,36,41,43] Tryz.f71) 1032) 1034) 1036) false q48 [⟨.nrm,q48⟩] (gS n)
def DH (n:Nat):LP Tryz.prog Tryz.f71.ntmps:=ct [] [Fa n] 1034 (sb (sb (acM [] [4,6,11,13,18,20,25,27,32,34,36,41,43] Tryz.f71) 1032) 1034) false q48 [⟨.nrm,q48⟩] (gE n)
def Dz (n:Nat):LP Tryz.prog Tryz.f71.ntmps:=ct [] [DH n] 1032 (sb (acM [] [4,6,11,13,18,20,25,27,32,34,36,41,43] Tryz.f71) 1032) false q48 [⟨.nrm,q48⟩] (gW n)
def EG (n:Nat):LP Tryz.prog Tryz.f71.ntmps:=ct [] [] 1043 (sb (sb (acM [] [4,6,11,13,18,20,25,27,32,34,36,41,43] Tryz.f71) 1041) 1043) false q87 q96 (gX n)
def Ek (n:Nat):LP Tryz.prog Tryz.f71.ntmps:=ct [] [EG n] 1041 (sb (acM [] [4,6,11,13,18,20,25,27,32,34,36,41,43] Tryz.f71) 1041) false q87 q96 (gH n)
def c71 (n:Nat):PF Tryz.prog 71 [.i .i64] (.tp q40):=au Tryz.func71 Tryz.call71 [] [F0 n,D2 n,Ef n,ET n,Dz n,Ek n] [] [4,6,11,13,18,20,25,27,32,34,36,41,43] (dI n)
def c72E (n:Nat):List (FE Tryz.prog):=[(c70 n).e,(c104 n).e]
def Fx (n:Nat):LP Tryz.prog Tryz.f72.ntmps:=bS (c72E n) [] 0 (sb (acM [] [] Tryz.f72) 0) false q65 [] q77 (ge n) n
def c72 (n:Nat):PF Tryz.prog 72 q40 (.i .i64):=au Tryz.func72 Tryz.call72 (c72E n) [Fx n] [] [] (iB n)
def BJ (n:Nat):List (FE Tryz.prog):=[(c72 n).e,(c70 n).e,(c104 n).e]
def CG (n:Nat):LP Tryz.prog Tryz.f72.ntmps:=bS (BJ n) [] 0 (sb (acM [] [] Tryz.f72) 0) false q65 [] q77 (ej n) n
def FZ (n:Nat):PF Tryz.prog 72 q40 (.i .i64):=au Tryz.func72 Tryz.call72 (BJ n) [CG n] [] [] (ft n)
def BQ (n:Nat):List (FE Tryz.prog):=[(FZ n).e,(c70 n).e,(c104 n).e]
def Cp (n:Nat):LP Tryz.prog Tryz.f72.ntmps:=bS (BQ n) [] 0 (sb (acM [] [] Tryz.f72) 0) false q65 [] q77 (fp n) n
def Gd (n:Nat):PF Tryz.prog 72 q40 (.i .i64):=au Tryz.func72 Tryz.call72 (BQ n) [Cp n] [] [] (av n)
def c73 (n:Nat):PF Tryz.prog 73 [.s] (.i .i64):=au Tryz.func73 Tryz.call73 [] [] [] [] (az n)
def c43 (n:Nat):PF Tryz.prog 43 [.ag q22] (.tp q40):=au Tryz.func43 Tryz.call43 [(c69 n).e,(c45 n).e,(c70 n).e,(c71 n).e,(Gd n).e,(c73 n).e] [] [] [] (ay n)
def c26 (n:Nat):PF Tryz.prog 26 [.ag q41,.ag q41] (.i .i64):=au Tryz.func26 Tryz.call26 [(c55 n).e,(c43 n).e] [] [] [] (cP n)
def c29 (n:Nat):PF Tryz.prog 29 [.ag q44] (.ag q37):=au Tryz.func29 Tryz.call29 [(c27 n).e] [] [] [] (aY n)
def c56 (n:Nat):PF Tryz.prog 56 [.ag q37,.i .i64] (.ag q37):=au Tryz.func56 Tryz.call56 [] [] [] [] (fh n)
def c28 (n:Nat):PF Tryz.prog 28 [.ag [.i .u8,.b,.i .u16,.i .u8,.i .u8,.i .u8,.i .u8,.i .u8,.i .u8,.i .u8,.i .u8,.i .u8,.b,.i .u16,.i .u8,.i .u8,.i .u8,.i .u8,.i .u8,.i .u8,.i .u8],.b] (.ag q24):=au Tryz.func28 Tryz.call28 [(c29 n).e,(c42 n).e,(c56 n).e,(c43 n).e,(c27 n).e,(c24 n).e] [] [] [] (dG n)
def c6E (n:Nat):List (FE Tryz.prog):=[(c24 n).e,(c25 n).e,(c26 n).e,(c27 n).e,(c28 n).e,(c29 n).e]
def c6j3 (n:Nat):LP Tryz.prog Tryz.f6.ntmps:=ct (c6E n) [] 1003 (sb (acM [] [3,9,11,16,22,24,30,41,44,46,47] Tryz.f6) 1003) true ⟨[(1,.p 1 0),(2,.p 2 0),(3,.ws 0),(13,.b)],q29,4,1,1,1⟩ [⟨.nrm,⟨[(1,.p 1 0),(2,.p 2 0),(3,.ws 3)],q30,5,1,1,1⟩⟩,⟨.nrm,⟨[(1,.p 1 0),(2,.p 2 0),(3,.ws 0)],q29,4,1,1,1⟩⟩] (fY n)
def Fb (n:Nat):LP Tryz.prog Tryz.f6.ntmps:=ct (c6E n) [] 1011 (sb (sb (acM [] [3,9,11,16,22,24,30,41,44,46,47] Tryz.f6) 1009) 1011) true q46 [⟨.nrm,q46⟩] (fw n)
def Bw (n:Nat):LP Tryz.prog Tryz.f6.ntmps:=ct (c6E n) [] 1011 (sb (sb (acM [] [3,9,11,16,22,24,30,41,44,46,47] Tryz.f6) 1009) 1011) true q47 [⟨.nrm,q47⟩] (eZ n)
def c6j9 (n:Nat):LP Tryz.prog Tryz.f6.ntmps:=ct (c6E n) [altL (Fb n) (Bw n) rfl] 1009 (sb (acM [] [3,9,11,16,22,24,30,41,44,46,47] Tryz.f6) 1009) true q46 [⟨.nrm,q46⟩] (eo n)
def FD (n:Nat):LP Tryz.prog Tryz.f6.ntmps:=ct (c6E n) [altL (Fb n) (Bw n) rfl] 1009 (sb (acM [] [3,9,11,16,22,24,30,41,44,46,47] Tryz.f6) 1009) true q47 [⟨.nrm,q47⟩] (dQ n)
def FA (n:Nat):LP Tryz.prog Tryz.f6.ntmps:=ct (c6E n) [] 1016 (sb (acM [] [3,9,11,16,22,24,30,41,44,46,47] Tryz.f6) 1016) true ⟨[(1,.p 1 0),(2,.p 2 0),(3,.rs 21 3 0 .q none),(23,.i .u8),(34,.b)],q30,5,1,1,1⟩ [⟨.nrm,⟨[(1,.p 1 0),(2,.p 2 0),(3,.rs 21 3 0 .q none),(34,.b)],q30,5,1,1,1⟩⟩] (dT n)
def EW (n:Nat):LP Tryz.prog Tryz.f6.ntmps:=ct (c6E n) [] 1016 (sb (acM [] [3,9,11,16,22,24,30,41,44,46,47] Tryz.f6) 1016) true ⟨[(1,.p 1 0),(2,.p 2 0),(3,.rs 21 0 0 .q none),(23,.i .u8),(34,.b)],q29,4,1,1,1⟩ [⟨.nrm,⟨[(1,.p 1 0),(2,.p 2 0),(3,.rs 21 0 0 .q none),(34,.b)],q29,4,1,1,1⟩⟩] (dw n)
def EU (n:Nat):LP Tryz.prog Tryz.f6.ntmps:=ct (c6E n) [] 1024 (sb (sb (acM [] [3,9,11,16,22,24,30,41,44,46,47] Tryz.f6) 1022) 1024) true ⟨[(2,.p 1 0),(3,.rs 21 2 0 .q none),(4,.p 3 0),(5,.p 4 0),(61,.b)],q36,6,1,1,1⟩ q42 (fm n)
def B3 (n:Nat):LP Tryz.prog Tryz.f6.ntmps:=ct (c6E n) [] 1024 (sb (sb (acM [] [3,9,11,16,22,24,30,41,44,46,47] Tryz.f6) 1022) 1024) true ⟨[(2,.p 1 0),(3,.rs 21 0 0 .q none),(4,.p 2 0),(5,.p 3 0),(61,.b)],q75,5,1,1,1⟩ q42 (fa n)
def FM (n:Nat):LP Tryz.prog Tryz.f6.ntmps:=ct (c6E n) [altL (EU n) (B3 n) rfl] 1022 (sb (acM [] [3,9,11,16,22,24,30,41,44,46,47] Tryz.f6) 1022) true ⟨[(2,.p 1 0),(3,.rs 21 2 0 .q none),(4,.p 3 0),(5,.p 4 0),(58,.b)],q36,6,1,1,1⟩ q42 (dM n)
def EJ (n:Nat):LP Tryz.prog Tryz.f6.ntmps:=ct (c6E n) [altL (EU n) (B3 n) rfl] 1022 (sb (acM [] [3,9,11,16,22,24,30,41,44,46,47] Tryz.f6) 1022) true ⟨[(2,.p 1 0),(3,.rs 21 0 0 .q none),(4,.p 2 0),(5,.p 3 0),(58,.b)],q75,5,1,1,1⟩ q42 (dE n)
def Fv (n:Nat):LP Tryz.prog Tryz.f6.ntmps:=ct (c6E n) [] 1030 (sb (acM [] [3,9,11,16,22,24,30,41,44,46,47] Tryz.f6) 1030) true ⟨[(2,.p 1 0),(3,.rs 21 2 0 .q none),(6,.p 3 0),(86,.b)],[(1,.cells q14),(2,.rows q13),(3,.cells [.ik .u8 3,.bk false,.bk false,.sk [],.ik .i64 0,.ik .i64 0,.sk [],.sk [],.ik .u8 0,.ik .u8 0,.ik .u8 0,.ik .u8 0,.bk false,.bk false,.sk [],.ik .i64 0,.ik .i64 0,.sk [],.sk [],.ik .u8 0,.ik .u8 0,.ik .u8 0,.ik .u8 0,.bk false,.bk false,.sk [],.ik .i64 0,.ik .i64 0,.sk [],.sk [],.ik .u8 0,.ik .u8 0,.ik .u8 0,.ws 5,.b,.b]),(4,.rows q12),(5,.rows q12)],6,1,1,1⟩ [⟨.nrm,⟨q88,q38,6,1,1,1⟩⟩] (dO n)
def E7 (n:Nat):LP Tryz.prog Tryz.f6.ntmps:=ct (c6E n) [] 1030 (sb (acM [] [3,9,11,16,22,24,30,41,44,46,47] Tryz.f6) 1030) true ⟨[(2,.p 1 0),(3,.rs 21 0 0 .q none),(6,.p 2 0),(86,.b)],[(0,.rows q13),(1,.cells q16),(2,.cells [.ik .u8 3,.bk false,.bk false,.sk [],.ik .i64 0,.ik .i64 0,.sk [],.sk [],.ik .u8 0,.ik .u8 0,.ik .u8 0,.ik .u8 0,.bk false,.bk false,.sk [],.ik .i64 0,.ik .i64 0,.sk [],.sk [],.ik .u8 0,.ik .u8 0,.ik .u8 0,.ik .u8 0,.bk false,.bk false,.sk [],.ik .i64 0,.ik .i64 0,.sk [],.sk [],.ik .u8 0,.ik .u8 0,.ik .u8 0,.ws 4,.b,.b]),(3,.rows q12),(4,.rows q12)],5,1,1,1⟩ [⟨.nrm,⟨q89,q39,5,1,1,1⟩⟩] (du n)
def c6l0 (n:Nat):LP Tryz.prog Tryz.f6.ntmps:=bS (c6E n) [] 0 (sb (acM [] [3,9,11,16,22,24,30,41,44,46,47] Tryz.f6) 0) true ⟨[(2,.p 1 0),(3,.rs 21 2 0 .q none),(6,.p 3 0),(7,.i .i64)],q38,6,1,1,1⟩ [] [⟨.exit 1,⟨q88,q28,6,1,1,1⟩⟩] (bq n) n
def Fp (n:Nat):LP Tryz.prog Tryz.f6.ntmps:=bS (c6E n) [] 0 (sb (acM [] [3,9,11,16,22,24,30,41,44,46,47] Tryz.f6) 0) true ⟨[(2,.p 1 0),(3,.rs 21 0 0 .q none),(6,.p 2 0),(7,.i .i64)],q39,5,1,1,1⟩ [] [⟨.exit 1,⟨q89,q50,5,1,1,1⟩⟩] (bg n) n
def Fn (n:Nat):LP Tryz.prog Tryz.f6.ntmps:=ct (c6E n) [] 1041 (sb (acM [] [3,9,11,16,22,24,30,41,44,46,47] Tryz.f6) 1041) true ⟨[(2,.p 1 0),(3,.rs 21 2 0 .q none),(6,.p 3 0),(8,.i .i64),(111,.b)],q28,6,1,1,1⟩ [⟨.nrm,⟨[(2,.p 1 0),(3,.rs 21 2 0 .q none),(6,.p 3 0),(8,.i .i64)],q28,6,1,1,1⟩⟩] (dX n)
def EH (n:Nat):LP Tryz.prog Tryz.f6.ntmps:=ct (c6E n) [] 1041 (sb (acM [] [3,9,11,16,22,24,30,41,44,46,47] Tryz.f6) 1041) true ⟨[(2,.p 1 0),(3,.rs 21 0 0 .q none),(6,.p 2 0),(8,.i .i64),(111,.b)],q50,5,1,1,1⟩ [⟨.nrm,⟨[(2,.p 1 0),(3,.rs 21 0 0 .q none),(6,.p 2 0),(8,.i .i64)],q50,5,1,1,1⟩⟩] (dD n)
def FB (n:Nat):LP Tryz.prog Tryz.f6.ntmps:=ct (c6E n) [] 1044 (sb (acM [] [3,9,11,16,22,24,30,41,44,46,47] Tryz.f6) 1044) true ⟨[(2,.p 1 0),(3,.rs 21 2 0 .q none),(6,.p 3 0),(8,.i .i64),(122,.b)],q28,6,1,1,1⟩ [⟨.nrm,q71⟩] (dZ n)
def En (n:Nat):LP Tryz.prog Tryz.f6.ntmps:=ct (c6E n) [] 1044 (sb (acM [] [3,9,11,16,22,24,30,41,44,46,47] Tryz.f6) 1044) true ⟨[(2,.p 1 0),(3,.rs 21 0 0 .q none),(6,.p 2 0),(8,.i .i64),(122,.b)],q50,5,1,1,1⟩ [⟨.nrm,q71⟩] (dA n)
def F7 (n:Nat):LP Tryz.prog Tryz.f6.ntmps:=ct (c6E n) [] 1046 (sb (acM [] [3,9,11,16,22,24,30,41,44,46,47] Tryz.f6) 1046) true q71 [⟨.nrm,q90⟩] (cN n)
def FT (n:Nat):LP Tryz.prog Tryz.f6.ntmps:=ct (c6E n) [] 1047 (sb (acM [] [3,9,11,16,22,24,30,41,44,46,47] Tryz.f6) 1047) true q90 [⟨.nrm,⟨[(2,.p 1 0),(6,.p 2 0)],q18,5,1,1,1⟩⟩] (cS n)
def c6 (n:Nat):FF Tryz.prog 6 [.ag q70] [.rows q13] 1 1 [⟨.ag [.i .u8,.bd,.b,.s,.i .i64,.i .i64,.s,.s,.i .u8,.i .u8,.i .u8,.i .u8,.bd,.b,.s,.i .i64,.i .i64,.s,.s,.i .u8,.i .u8,.i .u8,.i .u8,.bd,.b,.s,.i .i64,.i .i64,.s,.s,.i .u8,.i .u8,.i .u8,.ws 1,.b,.b],[(1,.rows q12)],[1],false⟩]:=funC Tryz.func6 Tryz.call6 (c6E n) [c6j3 n,altL (c6j9 n) (FD n) rfl,altL (FA n) (EW n) rfl,altL (FM n) (EJ n) rfl,altL (Fv n) (E7 n) rfl,altL (c6l0 n) (Fp n) rfl,altL (Fn n) (EH n) rfl,altL (FB n) (En n) rfl,F7 n,FT n] [] [3,9,11,16,22,24,30,41,44,46,47] [0] (fT n)
def c181 (n:Nat):PF Tryz.prog 181 [.i .u8] (.s):=au Tryz.func181 Tryz.call181 [] [] [] [] (kF n)
def Eb (n:Nat):List (FE Tryz.prog):=[(c181 n).e]
def El (n:Nat):LP Tryz.prog Tryz.f146.ntmps:=bS (Eb n) [] 0 (sb (acM [] [] Tryz.f146) 0) false ⟨[(0,.i .u8),(3,.i .u8)],[],0,0,0,0⟩ [] [⟨.ret,⟨[(2,.i .u8)],[],0,0,0,0⟩⟩,⟨.exit 0,⟨[],[],0,0,0,0⟩⟩] (kj n) n
def c146 (n:Nat):PF Tryz.prog 146 [.i .u8] (.i .u8):=au Tryz.func146 Tryz.call146 (Eb n) [El n] [] [] (mt n)
def c114 (n:Nat):PF Tryz.prog 114 [.ag q49] (.tp [.i .u8,.ag q49]):=au Tryz.func114 Tryz.call114 [(c146 n).e] [] [] [] (iQ n)
def c147 (n:Nat):PF Tryz.prog 147 [.s,.i .i64,.i .u8] (.tp q40):=au Tryz.func147 Tryz.call147 [] [] [] [] (ae n)
def Fi (n:Nat):List (FE Tryz.prog):=[(c147 n).e]
def D0 (n:Nat):LP Tryz.prog Tryz.f115.ntmps:=bS (Fi n) [] 0 (sb (acM [] [] Tryz.f115) 0) false ⟨[(0,.s),(4,.p 0 0),(7,.p 1 0),(8,.i .i64),(9,.i .i64),(10,.i .i64)],[(0,.cells q32),(1,.cells q32)],2,0,0,0⟩ [] [⟨.ret,⟨[(4,.p 0 0),(5,.i .i64),(6,.i .i64)],q82,2,0,0,0⟩⟩,⟨.exit 0,⟨[(0,.s),(4,.p 0 0),(7,.p 1 0),(8,.i .i64),(9,.i .i64)],[(0,.cells q32),(1,.cells q32)],2,0,0,0⟩⟩] (aP n) n
def c115 (n:Nat):PF Tryz.prog 115 [.s,.i .i64] (.tp [.ag q32,.i .i64,.i .i64]):=au Tryz.func115 Tryz.call115 (Fi n) [D0 n] [] [] (ks n)
def D3 (n:Nat):LP Tryz.prog Tryz.f116.ntmps:=bS [] [] 0 (sb (acM [] [] Tryz.f116) 0) false ⟨[(1,.p 0 0),(3,.p 1 0),(4,.i .i64),(5,.i .i64)],[(0,.cells q49),(1,.cells q49)],2,0,0,0⟩ [] [⟨.ret,⟨[(2,.s),(3,.p 1 0)],[(1,.cells q49)],2,0,0,0⟩⟩,⟨.exit 0,⟨[(1,.p 0 0),(3,.p 1 0),(4,.i .i64)],[(0,.cells q49),(1,.cells q49)],2,0,0,0⟩⟩] (jr n) n
def c116 (n:Nat):PF Tryz.prog 116 [.ag q49] (.tp [.s,.ag q49]):=au Tryz.func116 Tryz.call116 [] [D3 n] [] [] (jg n)
def c148 (n:Nat):PF Tryz.prog 148 [.i .u8,.i .u8] (.i .i64):=au Tryz.func148 Tryz.call148 [] [] [] [] (jd n)
def AU (n:Nat):List (FE Tryz.prog):=[(c148 n).e]
def DD (n:Nat):LP Tryz.prog Tryz.f117.ntmps:=bS (AU n) [] 2 (sb (sb (sb (acM [] [] Tryz.f117) 0).body 1).body 2) false ⟨[(2,.i .i64),(3,.p 0 0),(4,.p 1 0),(6,.p 2 0),(7,.p 3 0),(8,.i .u8),(9,.i .i64),(10,.i .i64),(11,.i .i64)],q45,4,0,0,0⟩ [] [⟨.exit 4,⟨[(2,.i .i64),(3,.p 0 0),(4,.p 1 0),(6,.p 2 0),(7,.p 3 0),(8,.i .u8),(9,.i .i64),(10,.i .i64)],q45,4,0,0,0⟩⟩] (hP n) n
def DO (n:Nat):LP Tryz.prog Tryz.f117.ntmps:=bS (AU n) [DD n] 1 (sb (sb (acM [] [] Tryz.f117) 0).body 1) false ⟨[(2,.i .i64),(3,.p 0 0),(4,.p 1 0),(6,.p 2 0),(7,.p 3 0),(8,.i .u8),(9,.i .i64)],q45,4,0,0,0⟩ [] [⟨.exit 2,q73⟩] (ia n) n
def Dy (n:Nat):LP Tryz.prog Tryz.f117.ntmps:=bS (AU n) [DO n] 0 (sb (acM [] [] Tryz.f117) 0) false q73 [] [⟨.exit 0,⟨[(6,.p 2 0),(7,.p 3 0)],[(2,.ints .u8 3),(3,.ints .u8 3)],4,0,0,0⟩⟩] (ib n) n
def c117 (n:Nat):PF Tryz.prog 117 [.ai .u8 3,.ai .u8 3,.i .i64] (.ai .u8 3):=au Tryz.func117 Tryz.call117 (AU n) [Dy n] [] [] (jt n)
def c89E (n:Nat):List (FE Tryz.prog):=[(c114 n).e,(c115 n).e,(c116 n).e,(c117 n).e]
def D8 (n:Nat):LP Tryz.prog Tryz.f89.ntmps:=ct (c89E n) [] 1013 (sb (sb (sb (acM [] [12,13,21,24] Tryz.f89) 0).body 1012) 1013) false q31 [⟨.nrm,⟨[(0,.s),(4,.p 0 0),(5,.p 1 0),(6,.p 2 0),(7,.p 3 0),(8,.p 4 0),(9,.p 5 0),(10,.p 6 0),(11,.p 7 0),(12,.i .i64),(13,.i .i64),(40,.b)],q20,8,0,0,0⟩⟩] (iI n)
def E9 (n:Nat):LP Tryz.prog Tryz.f89.ntmps:=ct (c89E n) [D8 n] 1012 (sb (sb (acM [] [12,13,21,24] Tryz.f89) 0).body 1012) false ⟨[(0,.s),(4,.p 0 0),(5,.p 1 0),(6,.p 2 0),(7,.p 3 0),(8,.p 4 0),(9,.p 5 0),(10,.p 6 0),(11,.p 7 0),(12,.i .i64),(13,.i .i64),(22,.b)],q20,8,0,0,0⟩ [⟨.exit 0,⟨q69,q20,8,0,0,0⟩⟩,⟨.nrm,q31⟩] (iC n)
def Ea (n:Nat):LP Tryz.prog Tryz.f89.ntmps:=ct (c89E n) [] 1024 (sb (sb (sb (acM [] [12,13,21,24] Tryz.f89) 0).body 1021) 1024) false ⟨[(0,.s),(4,.p 0 0),(5,.p 1 0),(6,.p 2 0),(7,.p 3 0),(8,.p 4 0),(9,.p 5 0),(10,.p 6 0),(11,.p 7 0),(12,.i .i64),(13,.i .i64),(76,.b)],q20,8,0,0,0⟩ [⟨.nrm,q31⟩] (iJ n)
def Ez (n:Nat):LP Tryz.prog Tryz.f89.ntmps:=ct (c89E n) [Ea n] 1021 (sb (sb (acM [] [12,13,21,24] Tryz.f89) 0).body 1021) false ⟨[(0,.s),(4,.p 0 0),(5,.p 1 0),(6,.p 2 0),(7,.p 3 0),(8,.p 4 0),(9,.p 5 0),(10,.p 6 0),(11,.p 7 0),(12,.i .i64),(13,.i .i64),(56,.i .i64),(63,.b)],q20,8,0,0,0⟩ [⟨.nrm,q31⟩] (iA n)
def Gf (n:Nat):LP Tryz.prog Tryz.f89.ntmps:=bS (c89E n) [E9 n,Ez n] 0 (sb (acM [] [12,13,21,24] Tryz.f89) 0) false q31 [] [⟨.exit 0,⟨q69,[(0,.cells q22),(1,.ints .i64 3),(2,.cells q49),(3,.cells q22),(4,.ints .i64 3),(5,.ints .u8 3),(6,.ints .u8 3),(7,.cells q49)],8,0,0,0⟩⟩,⟨.ret,⟨[(4,.p 0 0),(5,.p 1 0),(6,.p 2 0)],[(0,.cells q22),(1,.ints .i64 3),(2,.cells q49)],8,0,0,0⟩⟩] (iU n) n
def c89 (n:Nat):PF Tryz.prog 89 [.s,.i .i64] (.tp [.ag q22,.ai .i64 3,.ag q49]):=au Tryz.func89 Tryz.call89 (c89E n) [Gf n] [] [12,13,21,24] (iP n)
def c88 (n:Nat):PF Tryz.prog 88 [.s] (.tp [.ag q22,.i .i64,.i .i64]):=au Tryz.func88 Tryz.call88 [(c89 n).e,(c66 n).e] [] [] [] (km n)
def c57 (n:Nat):PF Tryz.prog 57 [.s] (.tp [.ag q22,.i .i64,.i .i64]):=au Tryz.func57 Tryz.call57 [(c88 n).e,(c34 n).e,(c89 n).e] [] [] [] (ki n)
def c30 (n:Nat):PF Tryz.prog 30 [.s] (.ag q37):=au Tryz.func30 Tryz.call30 [(c57 n).e] [] [] [] (aV n)
def c31 (n:Nat):FF Tryz.prog 31 [.ag q15] q91 1 1 [⟨.b,[],[],false⟩]:=funC Tryz.func31 Tryz.call31 [] [] [] [] [0] (iZ n)
noncomputable def Bt (_n:Nat):Ent:=CQ 92 204
theorem zp (n:Nat):gc Tryz.prog (Bt n):=A7 Tryz.call92 (λs n hl h w=>(Tryz.strconv_Atoi s n hl h w).mono λe w' ⟨h1,t,h2⟩=>⟨h1,h2▸kl _ _ _⟩) (λs hl h w hg=>zX s hl h w hg)
def c92 (n:Nat):FE Tryz.prog:=libF (zp n)
def c105 (n:Nat):PF Tryz.prog 105 [.i .i64] (.i .i64):=au Tryz.func105 Tryz.call105 [] [] [] [] (bM n)
theorem pure_seasons_Check (n:Nat):∀a r,bM n a=some r->iK Tryz.prog 105 (argP [.i .i64] a) (encP (.i .i64) r):=λa r h=>(c105 n).ok a r h
def c74 (n:Nat):PF Tryz.prog 74 [.ag q22] (.tp [.i .i64,.b]):=au Tryz.func74 Tryz.call74 [(c92 n),(c105 n).e] [] [] [] (bi n)
def c208 (_n:Nat):FE Tryz.prog:=libF (xg Tryz.func208 (by kernel_rfl) (by kernel_rfl) (by kernel_rfl) (by kernel_rfl))
def c190 (n:Nat):PF Tryz.prog 190 [.s,.i .u8] (.i .i64):=au Tryz.func190 Tryz.call190 [(c208 n)] [] [] [] (bs n)
def c210 (n:Nat):PF Tryz.prog 210 [.s,.i .u8] (.i .i64):=au Tryz.func210 Tryz.call210 [(c190 n).e] [] [] [] (cM n)
def c211 (n:Nat):PF Tryz.prog 211 [.i .i32] (.b):=au Tryz.func211 Tryz.call211 [] [] [] [] (bT n)
def yX (n:Nat):List (FE Tryz.prog):=[(c210 n).e,(c211 n).e]
def Em (n:Nat):LP Tryz.prog Tryz.f195.ntmps:=bS (yX n) [] 0 (sb (acM [] [] Tryz.f195) 0) false ⟨[(175,.p 0 0)],[(0,.iter)],1,0,0,0⟩ [] [⟨.ret,q80⟩,⟨.exit 9,q86⟩] (bR n) n
def DN (n:Nat):LP Tryz.prog Tryz.f195.ntmps:=bS (yX n) [] 2 (sb (sb (acM [] [] Tryz.f195) 1).body 2) false ⟨q85,[],128,0,0,0⟩ [] [⟨.exit 3,⟨[(8,.i .i64),(9,.i .i64)],[],128,0,0,0⟩⟩] (hS n) n
def CI (n:Nat):LP Tryz.prog Tryz.f195.ntmps:=bS (yX n) [] 2 (sb (sb (acM [] [] Tryz.f195) 1).body 2) false ⟨q85,[],56,0,0,0⟩ [] [⟨.exit 3,⟨[(8,.i .i64),(9,.i .i64)],[],56,0,0,0⟩⟩] (gP n) n
def EN (n:Nat):LP Tryz.prog Tryz.f195.ntmps:=bS (yX n) [altL (DN n) (CI n) rfl] 1 (sb (acM [] [] Tryz.f195) 1) false ⟨[(0,.s),(7,.s),(8,.i .i64),(9,.i .i64)],[],0,0,0,0⟩ [] [⟨.ret,q79⟩,⟨.exit 1,⟨[],[],0,0,0,0⟩⟩] (bO n) n
def c195 (n:Nat):PF Tryz.prog 195 [.s,.i .i32] (.i .i64):=au Tryz.func195 Tryz.call195 (yX n) [Em n,EN n,noL 3 (sb (acM [] [] Tryz.f195) 3)] [] [] (bW n)
def c164 (n:Nat):PF Tryz.prog 164 [.s,.i .i32] (.b):=au Tryz.func164 Tryz.call164 [(c195 n).e] [] [] [] (bQ n)
def c163 (n:Nat):FF Tryz.prog 163 [.i .i32,.p 0 0] [.cells [.s]] 1 1 [⟨.b,[],[],false⟩]:=funC Tryz.func163 Tryz.call163 [(c164 n).e] [] [] [] [0] (fk n)
def EV (n:Nat):List (FE Tryz.prog):=[(c163 n).e]
def Ep (n:Nat):LP Tryz.prog Tryz.f194.ntmps:=bS (EV n) [] 0 (sb (acM [] [] Tryz.f194) 0) false ⟨[(1,.fn 163 [.p 0 0]),(2,.b),(10,.p 1 0)],[(0,.cells [.s]),(1,.iter)],2,1,1,1⟩ [] [⟨.ret,⟨[(6,.i .i64)],[],2,1,1,1⟩⟩,⟨.exit 0,⟨[],[],2,1,1,1⟩⟩] (bn n) n
def c194 (n:Nat):FF Tryz.prog 194 [.s,.fn 163 [.p 0 0],.b] [.cells [.s]] 1 1 [⟨.i .i64,[],[],false⟩]:=funC Tryz.func194 Tryz.call194 (EV n) [Ep n] [] [] [0] (gx n)
def c162 (n:Nat):FF Tryz.prog 162 [.s,.fn 163 [.p 0 0]] [.cells [.s]] 1 1 [⟨.i .i64,[],[],false⟩]:=funC Tryz.func162 Tryz.call162 [(c194 n).e] [] [] [] [0] (gt n)
def c137 (n:Nat):PF Tryz.prog 137 [.s,.s] (.b):=au Tryz.func137 Tryz.call137 [(c162 n).e] [] [] [] (dl n)
def E5 (n:Nat):LP Tryz.prog Tryz.f166.ntmps:=bS [] [] 0 (sb (acM [] [] Tryz.f166) 0) false ⟨[(0,.s),(1,.i .u8)],[],0,0,0,0⟩ [] [⟨.exit 0,⟨[(0,.s)],[],0,0,0,0⟩⟩] (bF n) n
def c166 (n:Nat):PF Tryz.prog 166 [.s,.i .u8] (.s):=au Tryz.func166 Tryz.call166 [] [E5 n] [] [] (cX n)
def EX (n:Nat):LP Tryz.prog Tryz.f165.ntmps:=bS [] [] 0 (sb (acM [] [] Tryz.f165) 0) false ⟨[(0,.s),(1,.i .u8)],[],0,0,0,0⟩ [] [⟨.exit 0,⟨[(0,.s)],[],0,0,0,0⟩⟩] (cE n) n
def c165 (n:Nat):PF Tryz.prog 165 [.s,.i .u8] (.s):=au Tryz.func165 Tryz.call165 [] [EX n] [] [] (dC n)
def c138 (n:Nat):PF Tryz.prog 138 [.s,.sk [48]] (.s):=au Tryz.func138 Tryz.call138 [(c166 n).e,(c165 n).e] [] [] [] (ja n)
def c161 (n:Nat):PF Tryz.prog 161 [.s,.sk [88]] (.i .i64):=au Tryz.func161 Tryz.call161 [(c190 n).e] [noL 0 (sb (acM [] [] Tryz.f161) 0)] [] [] (eF n)
def c136 (n:Nat):PF Tryz.prog 136 [.s,.sk [88]] (.i .i64):=au Tryz.func136 Tryz.call136 [(c161 n).e] [] [] [] (ie n)
def c103 (n:Nat):PF Tryz.prog 103 [.s,.sk [88]] (.b):=au Tryz.func103 Tryz.call103 [(c136 n).e] [] [] [] (d6 n)
def c107 (n:Nat):PF Tryz.prog 107 [.ag q32] (.b):=au Tryz.func107 Tryz.call107 [(c103 n).e] [] [] [] (bu n)
noncomputable def yi (_n:Nat):Ent:=yK 149
theorem wW (n:Nat):gc Tryz.prog (yi n):=xU Tryz.call149 λs h v hv w=>(Tryz.strconv_ParseInt_10_at64_ok s h v hv w).mono λe w' ⟨h1,h2⟩=>⟨h1,h2.elim (λh=>h▸RowKit.Below.refl _ _) (λ⟨t,h⟩=>h▸kl _ _ _)⟩
def c149 (n:Nat):FE Tryz.prog:=libF (wW n)
def ED (n:Nat):LP Tryz.prog Tryz.f150.ntmps:=bS [] [] 0 (sb (acM [] [] Tryz.f150) 0) false ⟨[(4,.i .i64),(9,.i .i64),(10,.i .i64)],[],0,0,0,0⟩ [] [⟨.exit 0,q79⟩] (fM n) n
def c150 (n:Nat):PF Tryz.prog 150 [.i .i64] (.tp q40):=au Tryz.func150 Tryz.call150 [] [ED n] [] [] (jB n)
def c183 (n:Nat):PF Tryz.prog 183 [.i .i64] (.i .u64):=au Tryz.func183 Tryz.call183 [] [] [] [] (mr n)
def c182 (n:Nat):PF Tryz.prog 182 [.i .u64,.i .u64] (.tp [.i .u64,.i .u64]):=au Tryz.func182 Tryz.call182 [] [] [] [] (fR n)
def c184 (n:Nat):PF Tryz.prog 184 [.i .u64,.b] (.tp q40):=au Tryz.func184 Tryz.call184 [] [] [] [] (lI n)
def c151 (n:Nat):PF Tryz.prog 151 q40 (.tp q40):=au Tryz.func151 Tryz.call151 [(c183 n).e,(c182 n).e,(c184 n).e] [] [] [] (np n)
def c118 (n:Nat):PF Tryz.prog 118 [.ag q32] (.tp q40):=au Tryz.func118 Tryz.call118 [(c149 n),(c150 n).e,(c151 n).e] [] [] [] (bZ n)
def c139 (n:Nat):PF Tryz.prog 139 [.ag q32] (.b):=au Tryz.func139 Tryz.call139 [(c137 n).e,(c118 n).e] [] [] [] (aA n)
def c106 (n:Nat):PF Tryz.prog 106 [.ag q32] (.i .i64):=au Tryz.func106 Tryz.call106 [(c137 n).e,(c138 n).e,(c107 n).e,(c139 n).e] [] [] [] (eN n)
def c91 (n:Nat):PF Tryz.prog 91 [.ag q32] (.tp q40):=au Tryz.func91 Tryz.call91 [(c106 n).e,(c107 n).e,(c118 n).e] [] [] [] (ci n)
noncomputable def qf (l:List V):Option (Int):=match l with
 | [.i .i64 a0]=>some (a0)
 | _=>none
noncomputable def xq (n:Nat):Ent:=sF 140 qf (λa=>cK n a) (λr=>.tp [.i .i64 r.1,.i .i64 r.2.1,.i .i64 r.2.2])
theorem wq (n:Nat):gc Tryz.prog (xq n):=l4 (arg:=λa=>[.i .i64 a]) Tryz.call140 (λl a h=>by
 unfold qf at h
 split at h
 ·cases h;rfl
 ·cases h) (λa=>rfl) (λa r h=>lz n (λx r h=>pure_seasons_Check n x r h) a r h)
def c140 (n:Nat):FE Tryz.prog:=libF (wq n)
def c157 (n:Nat):PF Tryz.prog 157 [.i .i64] (.i .i64):=au Tryz.func157 Tryz.call157 [] [] [] [] (eB n)
def c144 (n:Nat):PF Tryz.prog 144 q40 (.i .i64):=au Tryz.func144 Tryz.call144 [(c157 n).e] [] [] [] (fE n)
def c200 (n:Nat):PF Tryz.prog 200 q40 (.tp q40):=au Tryz.func200 Tryz.call200 [] [] [] [] (vW n)
def c173 (n:Nat):PF Tryz.prog 173 q40 (.tp q40):=au Tryz.func173 Tryz.call173 [(c200 n).e] [] [] [] (gy n)
theorem pure_ints_Div (n:Nat):∀a r,gy n a.1 a.2=some r->iK Tryz.prog 173 (argP q40 a) (encP (.tp q40) r):=λa r h=>(c173 n).ok a r h
noncomputable def pE (l:List V):Option (Int):=match l with
 | [.i .i64 a0]=>some (a0)
 | _=>none
noncomputable def yn (n:Nat):Ent:=sF 189 pE (λa=>cL n a) (λr=>.i .i64 r)
theorem wQ (n:Nat):gc Tryz.prog (yn n):=l4 (arg:=λa=>[.i .i64 a]) Tryz.call189 (λl a h=>by
 unfold pE at h
 split at h
 ·cases h;rfl
 ·cases h) (λa=>rfl) (λa r h=>mK n (λx y r h=>pure_ints_Div n (x,y) r h) a r h)
def c189 (n:Nat):FE Tryz.prog:=libF (wQ n)
def c158 (n:Nat):PF Tryz.prog 158 [.i .i64] (.i .i64):=au Tryz.func158 Tryz.call158 [(c189 n)] [] [] [] (gq n)
def c123 (n:Nat):PF Tryz.prog 123 [.i .i64] (.tp q40):=au Tryz.func123 Tryz.call123 [(c157 n).e,(c158 n).e] [] [] [] (gn n)
def c180 (n:Nat):PF Tryz.prog 180 [.i .i64] (.tp [.b,.i .i64]):=au Tryz.func180 Tryz.call180 [(c157 n).e,(c189 n)] [] [] [] (fF n)
theorem pure_years_Leap (n:Nat):∀a r,fF n a=some r->iK Tryz.prog 180 (argP [.i .i64] a) (encP (.tp [.b,.i .i64]) r):=λa r h=>(c180 n).ok a r h
noncomputable def pF (l:List V):Option (Int×Int):=match l with
 | [.i .i64 a0,.i .i64 a1]=>some (a0,a1)
 | _=>none
noncomputable def yy (n:Nat):Ent:=sF 145 pF (λa=>cf n a.1 a.2) (λr=>.i .i64 r)
theorem wK (n:Nat):gc Tryz.prog (yy n):=l4 (arg:=λa=>[.i .i64 a.1,.i .i64 a.2]) Tryz.call145 (λl a h=>by
 unfold pF at h
 split at h
 ·cases h;rfl
 ·cases h) (λa=>rfl) (λa r h=>ml n (λx r h=>pure_years_Leap n x r h) a.1 a.2 r h)
def c145 (n:Nat):FE Tryz.prog:=libF (wK n)
def Ee (n:Nat):List (FE Tryz.prog):=[(c144 n).e,(c123 n).e,(c145 n)]
def Dx (n:Nat):LP Tryz.prog Tryz.f127.ntmps:=bS (Ee n) [] 0 (sb (acM [] [] Tryz.f127) 0) false ⟨[(0,.i .i64),(7,.i .i64),(22,.i .i64),(23,.i .i64)],[],0,0,0,0⟩ [] [⟨.exit 0,⟨[(7,.i .i64)],[],0,0,0,0⟩⟩] (aI n) n
def c127 (n:Nat):PF Tryz.prog 127 q40 (.tp q40):=au Tryz.func127 Tryz.call127 (Ee n) [Dx n] [] [] (cJ n)
noncomputable def pL (l:List V):Option (Int×Int):=match l with
 | [.i .i64 a0,.i .i64 a1]=>some (a0,a1)
 | _=>none
noncomputable def zL (n:Nat):Ent:=sF 172 pL (λa=>le n a.1 a.2) (λr=>.tp [.i .i64 r.1,.i .i64 r.2])
theorem wP (n:Nat):gc Tryz.prog (zL n):=l4 (arg:=λa=>[.i .i64 a.1,.i .i64 a.2]) Tryz.call172 (λl a h=>by
 unfold pL at h
 split at h
 ·cases h;rfl
 ·cases h) (λa=>rfl) (λa r h=>rB n a.1 a.2 r h)
def c172 (n:Nat):FE Tryz.prog:=libF (wP n)
def c174 (n:Nat):PF Tryz.prog 174 q40 (.tp q40):=au Tryz.func174 Tryz.call174 [] [] [] [] (nI n)
def c141 (n:Nat):PF Tryz.prog 141 [.i .i64,.i .i64,.i .i64] (.tp [.i .i64,.i .i64,.i .i64]):=au Tryz.func141 Tryz.call141 [(c144 n).e,(c172 n),(c173 n).e,(c174 n).e,(c157 n).e] [] [] [] (jw n)
def c128 (n:Nat):PF Tryz.prog 128 q40 (.tp q40):=au Tryz.func128 Tryz.call128 [(c127 n).e,(c145 n)] [] [] [] (dF n)
def c108 (n:Nat):PF Tryz.prog 108 q40 (.tp [.ag q55,.i .i64]):=au Tryz.func108 Tryz.call108 [(c140 n),(c127 n).e,(c141 n).e,(c128 n).e] [] [] [] (dV n)
def c76 (n:Nat):PF Tryz.prog 76 [.ag q22] (.b):=au Tryz.func76 Tryz.call76 [(c106 n).e,(c74 n).e,(c107 n).e,(c91 n).e,(c108 n).e] [] [] [] (cO n)
def fS9 (n:Nat):LP Tryz.prog Tryz.f77.ntmps:=bS [] [] 0 (sb (acM [] [] Tryz.f77) 0) false q94 [] [⟨.ret,⟨[(4,.b)],[],0,0,0,0⟩⟩,⟨.exit 0,⟨[],[],0,0,0,0⟩⟩] (bB n) n
def c77 (n:Nat):PF Tryz.prog 77 [.s,.i .i64] (.b):=au Tryz.func77 Tryz.call77 [] [fS9 n] [] [] (bz n)
def Gg (n:Nat):LP Tryz.prog Tryz.f79.ntmps:=bS [] [] 0 (sb (acM [] [] Tryz.f79) 0) false ⟨[(3,.i .i64),(10,.ag [.s,.s]),(11,.i .i64)],[],1,0,0,0⟩ [] [⟨.exit 0,⟨[(3,.i .i64)],[],1,0,0,0⟩⟩] (aS n) n
def c79 (n:Nat):PF Tryz.prog 79 [.ag q22] (.i .i64):=au Tryz.func79 Tryz.call79 [] [Gg n] [] [] (aL n)
def c109 (n:Nat):PF Tryz.prog 109 [.i .u8] (.i .i64):=au Tryz.func109 Tryz.call109 [] [] [] [] (eI n)
def c78E (n:Nat):List (FE Tryz.prog):=[(c109 n).e]
def Fq (n:Nat):LP Tryz.prog Tryz.f78.ntmps:=bS (c78E n) [] 0 (sb (acM [] [] Tryz.f78) 0) false ⟨[(1,.i .i64),(13,.ai .u8 3),(14,.i .i64)],[],1,0,0,0⟩ [] [⟨.ret,q80⟩,⟨.exit 0,q86⟩] (dK n) n
def c78 (n:Nat):PF Tryz.prog 78 [.ai .u8 3,.i .i64] (.i .i64):=au Tryz.func78 Tryz.call78 (c78E n) [Fq n] [] [] (da n)
def c47 (n:Nat):PF Tryz.prog 47 [.ag q22] (.i .i64):=au Tryz.func47 Tryz.call47 [(c74 n).e,(c76 n).e,(c77 n).e,(c79 n).e,(c78 n).e] [] [] [] (fO n)
def c110 (n:Nat):PF Tryz.prog 110 [.s,.i .i64] (.b):=au Tryz.func110 Tryz.call110 [] [] [] [] (f8 n)
def c80E (n:Nat):List (FE Tryz.prog):=[(c110 n).e]
def FX (n:Nat):LP Tryz.prog Tryz.f80.ntmps:=bS (c80E n) [] 0 (sb (acM [] [] Tryz.f80) 0) false ⟨[(0,.s),(5,.ws 0),(7,.i .i64),(8,.i .i64)],q64,1,0,0,0⟩ [.nilT 5 0 [.i .i64]] [⟨.exit 0,⟨[(5,.ws 0)],q64,1,0,0,0⟩⟩] (cT n) n
def c80 (n:Nat):FF Tryz.prog 80 [.s,.i .i64] [] 0 0 [⟨.ws 0,q64,[0],false⟩]:=funC Tryz.func80 Tryz.call80 (c80E n) [FX n] [] [] [] (cC n)
def c48 (n:Nat):FF Tryz.prog 48 [.ag q22] [] 0 0 [⟨.ag q34,[(0,.rows [.i .i64]),(1,.rows [.i .i64])],[0,1],false⟩]:=funC Tryz.func48 Tryz.call48 [(c74 n).e,(c80 n).e] [] [] [] [] (kg n)
def c81 (n:Nat):FF Tryz.prog 81 [.ws 0] q74 1 1 [⟨.ws 1,[(1,.rows [.i .i64])],[1],false⟩]:=funC Tryz.func81 Tryz.call81 [] [] [] [] [0] (fb n)
def Fm (n:Nat):LP Tryz.prog Tryz.f82.ntmps:=bS [] [] 0 (sb (acM [] [] Tryz.f82) 0) false ⟨[(0,.ws 0),(2,.i .i64),(3,.i .i64)],q64,1,1,0,1⟩ [] [⟨.exit 0,⟨[],q64,1,1,0,1⟩⟩] (ff n) n
def c82 (n:Nat):FF Tryz.prog 82 [.ws 0] q74 0 1 [⟨.tp [],q64,[],false⟩]:=funC Tryz.func82 Tryz.call82 [] [Fm n] [] [] [0] (ek n)
def Ff (n:Nat):LP Tryz.prog Tryz.f175.ntmps:=bS [] [] 0 (sb (acM [] [] Tryz.f175) 0) false ⟨[(0,.s),(9,.p 0 0)],[(0,.iter)],1,0,0,0⟩ [] [⟨.ret,q78⟩,⟨.exit 0,⟨[(0,.s)],[],1,0,0,0⟩⟩] (eh n) n
def c175 (n:Nat):PF Tryz.prog 175 [.s] (.i .i64):=au Tryz.func175 Tryz.call175 [] [Ff n] [] [] (fv n)
def DX (n:Nat):LP Tryz.prog Tryz.f201.ntmps:=bS [] [] 0 (sb (acM [] [] Tryz.f201) 0) false ⟨[(1,.i .u8),(5,.i .i64),(9,.ws 0),(10,.i .i64),(11,.i .i64)],[(0,.rows [.i .u8])],1,0,0,0⟩ [] [⟨.exit 0,⟨[(5,.i .i64)],[],1,0,0,0⟩⟩] (dJ n) n
def c201 (n:Nat):PF Tryz.prog 201 [.s,.i .u8] (.i .i64):=au Tryz.func201 Tryz.call201 [] [DX n] [] [] (gK n)
def c176 (n:Nat):PF Tryz.prog 176 [.s] (.tp q40):=au Tryz.func176 Tryz.call176 [(c175 n).e,(c201 n).e] [] [] [] (jN n)
def c202 (n:Nat):PF Tryz.prog 202 [.i .i64] (.i .i64):=au Tryz.func202 Tryz.call202 [(c150 n).e] [] [] [] (jV n)
def c177 (n:Nat):PF Tryz.prog 177 [.s,.i .i64] (.b):=au Tryz.func177 Tryz.call177 [(c202 n).e] [] [] [] (gM n)
def EY (n:Nat):LP Tryz.prog Tryz.f203.ntmps:=bS [] [] 0 (sb (acM [] [] Tryz.f203) 0) false ⟨[(1,.i .i64),(4,.p 0 0),(5,.i .i64)],[(0,.ints .u8 18)],1,0,0,0⟩ [] [⟨.exit 0,⟨[(4,.p 0 0)],[(0,.ints .u8 18)],1,0,0,0⟩⟩] (ei n) n
def c203 (n:Nat):PF Tryz.prog 203 [.s,.i .i64] (.ai .u8 18):=au Tryz.func203 Tryz.call203 [] [EY n] [] [] (gv n)
def c204 (n:Nat):PF Tryz.prog 204 [.s,.ai .u8 18] (.i .i64):=au Tryz.func204 Tryz.call204 [(c201 n).e] [] [] [] (dp n)
def Ai (n:Nat):List (FE Tryz.prog):=[(c203 n).e,(c204 n).e]
def Et (n:Nat):LP Tryz.prog Tryz.f178.ntmps:=bS (Ai n) [] 0 (sb (acM [] [] Tryz.f178) 0) false q59 [] [⟨.exit 0,q59⟩] (cR n) n
def D6 (n:Nat):LP Tryz.prog Tryz.f178.ntmps:=bS (Ai n) [] 1 (sb (acM [] [] Tryz.f178) 1) false ⟨[(0,.s),(2,.b),(8,.i .u8),(9,.i .u8),(10,.p 0 0),(11,.p 1 0),(12,.i .i64)],[(0,.ints .u8 18),(1,.ints .u8 18)],74,0,0,0⟩ [] [⟨.ret,⟨[(6,.i .i64),(7,.i .i64)],[],74,0,0,0⟩⟩,⟨.exit 2,⟨[(0,.s),(2,.b),(8,.i .u8),(11,.p 1 0),(12,.i .i64)],[(1,.ints .u8 18)],74,0,0,0⟩⟩] (bh n) n
def E8 (n:Nat):LP Tryz.prog Tryz.f178.ntmps:=bS (Ai n) [] 2 (sb (acM [] [] Tryz.f178) 2) false ⟨[(0,.s),(8,.i .u8),(11,.p 1 0),(12,.i .i64)],[(1,.ints .u8 18)],74,0,0,0⟩ [] [⟨.exit 5,⟨[(0,.s),(11,.p 1 0)],[(1,.ints .u8 18)],74,0,0,0⟩⟩] (aG n) n
def c178 (n:Nat):PF Tryz.prog 178 [.s,.i .i64,.b] (.tp q40):=au Tryz.func178 Tryz.call178 (Ai n) [Et n,D6 n,E8 n] [] [] (bE n)
def c142 (n:Nat):PF Tryz.prog 142 [.s,.i .i64] (.tp q40):=au Tryz.func142 Tryz.call142 [(c175 n).e,(c176 n).e,(c177 n).e,(c178 n).e] [] [] [] (kY n)
def c179 (n:Nat):PF Tryz.prog 179 [.s] (.tp q40):=au Tryz.func179 Tryz.call179 [(c175 n).e,(c201 n).e] [] [] [] (gB n)
def c143 (n:Nat):PF Tryz.prog 143 [.s,.i .i64] (.tp q40):=au Tryz.func143 Tryz.call143 [(c175 n).e,(c177 n).e,(c179 n).e,(c178 n).e] [] [] [] (lc n)
def c111 (n:Nat):PF Tryz.prog 111 [.s,.i .i64,.b,.i .i64] (.tp [.i .i64,.b]):=au Tryz.func111 Tryz.call111 [(c142 n).e,(c143 n).e] [] [] [] (cQ n)
def c84 (n:Nat):FF Tryz.prog 84 [.ag q34,.i .i64,.b] q83 2 2 [⟨.tp [.i .i64,.b],[],[],false⟩]:=funC Tryz.func84 Tryz.call84 [(c107 n).e,(c91 n).e,(c111 n).e] [] [] [] [0,1] (ba n)
def c83 (n:Nat):FF Tryz.prog 83 [.i .i64,.i .i64,.p 0 0] [.cells [.b]] 1 1 [⟨.b,[],[],false⟩]:=funC Tryz.func83 Tryz.call83 [] [] [] [] [0] (bm n)
def c112 (n:Nat):PF Tryz.prog 112 q40 (.tp q40):=au Tryz.func112 Tryz.call112 [(c144 n).e,(c145 n)] [] [] [] (jl n)
def c85 (n:Nat):FF Tryz.prog 85 [.ag q34,.i .i64,.i .i64] q83 2 2 [⟨.i .i64,[],[],false⟩]:=funC Tryz.func85 Tryz.call85 [(c112 n).e] [] [] [] [0,1] (cA n)
def c49E (n:Nat):List (FE Tryz.prog):=[(c81 n).e,(c82 n).e,(c84 n).e,(c83 n).e,(c85 n).e]
def FK (n:Nat):LP Tryz.prog Tryz.f49.ntmps:=ct (c49E n) [] 1003 (sb (acM [] [3,17,20,23,30] Tryz.f49) 1003) false ⟨[(3,.p 2 0),(4,.p 3 0),(5,.p 4 0),(6,.p 5 0),(8,.ik .i64 1),(9,.ws 0),(10,.ws 1),(25,.b)],q57,62,2,2,2⟩ [⟨.nrm,⟨[(3,.p 2 0),(4,.p 3 0),(5,.p 4 0),(6,.p 5 0),(8,.ik .i64 (-1)),(9,.ws 62),(10,.ws 63)],[(0,.rows [.i .i64]),(1,.rows [.i .i64]),(2,.cells q34),(3,.cells [.i .i64,.i .i64,.i .i64]),(4,.cells [.b]),(5,.cells [.ik .i64 0,.ik .i64 0,.ik .i64 0]),(62,.rows [.i .i64]),(63,.rows [.i .i64])],64,2,2,2⟩⟩,⟨.nrm,⟨[(3,.p 2 0),(4,.p 3 0),(5,.p 4 0),(6,.p 5 0),(8,.ik .i64 1),(9,.ws 0),(10,.ws 1)],q57,62,2,2,2⟩⟩] (eO n)
def BO (n:Nat):LP Tryz.prog Tryz.f49.ntmps:=ct (c49E n) [] 1020 (sb (sb (sb (sb (acM [] [3,17,20,23,30] Tryz.f49) 0).body 1).body 1017) 1020) false ⟨[(3,.p 2 0),(4,.p 3 0),(5,.p 4 0),(6,.p 5 0),(8,.i .i64),(9,.ws 62),(10,.ws 63),(11,.fn 83 [.p 4 0]),(12,.i .i64),(15,.i .i64),(16,.b),(53,.ws 62),(54,.i .i64),(55,.i .i64)],q19,64,2,2,2⟩ [⟨.nrm,⟨[(3,.p 2 0),(4,.p 3 0),(5,.p 4 0),(6,.p 5 0),(8,.i .i64),(9,.ws 62),(10,.ws 63),(11,.fn 83 [.p 4 0]),(12,.i .i64),(15,.i .i64),(16,.b),(53,.ws 62),(54,.i .i64),(55,.i .i64),(76,.b)],q19,64,2,2,2⟩⟩] (gg n)
def xI (n:Nat):LP Tryz.prog Tryz.f49.ntmps:=ct (c49E n) [] 1020 (sb (sb (sb (sb (acM [] [3,17,20,23,30] Tryz.f49) 0).body 1).body 1017) 1020) false ⟨[(3,.p 2 0),(4,.p 3 0),(5,.p 4 0),(6,.p 5 0),(8,.i .i64),(9,.ws 0),(10,.ws 1),(11,.fn 83 [.p 4 0]),(12,.i .i64),(15,.i .i64),(16,.b),(53,.ws 0),(54,.i .i64),(55,.i .i64)],q21,62,2,2,2⟩ [⟨.nrm,⟨[(3,.p 2 0),(4,.p 3 0),(5,.p 4 0),(6,.p 5 0),(8,.i .i64),(9,.ws 0),(10,.ws 1),(11,.fn 83 [.p 4 0]),(12,.i .i64),(15,.i .i64),(16,.b),(53,.ws 0),(54,.i .i64),(55,.i .i64),(76,.b)],q21,62,2,2,2⟩⟩] (cH n)
def BK (n:Nat):LP Tryz.prog Tryz.f49.ntmps:=ct (c49E n) [] 1023 (sb (sb (sb (sb (acM [] [3,17,20,23,30] Tryz.f49) 0).body 1).body 1017) 1023) false q51 [⟨.nrm,q51⟩] (gi n)
def yM (n:Nat):LP Tryz.prog Tryz.f49.ntmps:=ct (c49E n) [] 1023 (sb (sb (sb (sb (acM [] [3,17,20,23,30] Tryz.f49) 0).body 1).body 1017) 1023) false q52 [⟨.nrm,q52⟩] (cD n)
def BI (n:Nat):LP Tryz.prog Tryz.f49.ntmps:=ct (c49E n) [] 1030 (sb (sb (sb (sb (sb (acM [] [3,17,20,23,30] Tryz.f49) 0).body 1).body 1017) 2).body 1030) false ⟨[(3,.p 2 0),(4,.p 3 0),(5,.p 4 0),(6,.p 5 0),(8,.i .i64),(9,.ws 62),(10,.ws 63),(11,.fn 83 [.p 4 0]),(12,.i .i64),(15,.i .i64),(16,.b),(17,.i .i64),(19,.i .i64),(53,.ws 62),(54,.i .i64),(55,.i .i64),(94,.ws 63),(95,.i .i64),(96,.i .i64)],q19,64,2,2,2⟩ [⟨.nrm,⟨[(3,.p 2 0),(4,.p 3 0),(5,.p 4 0),(6,.p 5 0),(8,.i .i64),(9,.ws 62),(10,.ws 63),(11,.fn 83 [.p 4 0]),(12,.i .i64),(15,.i .i64),(16,.b),(17,.i .i64),(19,.i .i64),(53,.ws 62),(54,.i .i64),(55,.i .i64),(94,.ws 63),(95,.i .i64),(96,.i .i64),(119,.b)],q19,64,2,2,2⟩⟩] (gf n)
def zB (n:Nat):LP Tryz.prog Tryz.f49.ntmps:=ct (c49E n) [] 1030 (sb (sb (sb (sb (sb (acM [] [3,17,20,23,30] Tryz.f49) 0).body 1).body 1017) 2).body 1030) false ⟨[(3,.p 2 0),(4,.p 3 0),(5,.p 4 0),(6,.p 5 0),(8,.i .i64),(9,.ws 0),(10,.ws 1),(11,.fn 83 [.p 4 0]),(12,.i .i64),(15,.i .i64),(16,.b),(17,.i .i64),(19,.i .i64),(53,.ws 0),(54,.i .i64),(55,.i .i64),(94,.ws 1),(95,.i .i64),(96,.i .i64)],q21,62,2,2,2⟩ [⟨.nrm,⟨[(3,.p 2 0),(4,.p 3 0),(5,.p 4 0),(6,.p 5 0),(8,.i .i64),(9,.ws 0),(10,.ws 1),(11,.fn 83 [.p 4 0]),(12,.i .i64),(15,.i .i64),(16,.b),(17,.i .i64),(19,.i .i64),(53,.ws 0),(54,.i .i64),(55,.i .i64),(94,.ws 1),(95,.i .i64),(96,.i .i64),(119,.b)],q21,62,2,2,2⟩⟩] (dU n)
def D7 (n:Nat):LP Tryz.prog Tryz.f49.ntmps:=bS (c49E n) [altL (BI n) (zB n) rfl] 2 (sb (sb (sb (sb (acM [] [3,17,20,23,30] Tryz.f49) 0).body 1).body 1017) 2) false ⟨[(3,.p 2 0),(4,.p 3 0),(5,.p 4 0),(6,.p 5 0),(8,.i .i64),(9,.ws 62),(10,.ws 63),(11,.fn 83 [.p 4 0]),(12,.i .i64),(15,.i .i64),(16,.b),(17,.i .i64),(53,.ws 62),(54,.i .i64),(55,.i .i64),(94,.ws 63),(95,.i .i64),(96,.i .i64)],q19,64,2,2,2⟩ [] [⟨.ret,q92⟩,⟨.exit 4,q33⟩] (gN n) n
def BN (n:Nat):LP Tryz.prog Tryz.f49.ntmps:=bS (c49E n) [altL (BI n) (zB n) rfl] 2 (sb (sb (sb (sb (acM [] [3,17,20,23,30] Tryz.f49) 0).body 1).body 1017) 2) false ⟨[(3,.p 2 0),(4,.p 3 0),(5,.p 4 0),(6,.p 5 0),(8,.i .i64),(9,.ws 0),(10,.ws 1),(11,.fn 83 [.p 4 0]),(12,.i .i64),(15,.i .i64),(16,.b),(17,.i .i64),(53,.ws 0),(54,.i .i64),(55,.i .i64),(94,.ws 1),(95,.i .i64),(96,.i .i64)],q21,62,2,2,2⟩ [] [⟨.ret,q93⟩,⟨.exit 4,q35⟩] (aJ n) n
def BE (n:Nat):LP Tryz.prog Tryz.f49.ntmps:=ct (c49E n) [altL (BO n) (xI n) rfl,altL (BK n) (yM n) rfl,altL (D7 n) (BN n) rfl] 1017 (sb (sb (sb (acM [] [3,17,20,23,30] Tryz.f49) 0).body 1).body 1017) false q33 [⟨.nrm,q33⟩,⟨.ret,q92⟩] (gh n)
def yu (n:Nat):LP Tryz.prog Tryz.f49.ntmps:=ct (c49E n) [altL (BO n) (xI n) rfl,altL (BK n) (yM n) rfl,altL (D7 n) (BN n) rfl] 1017 (sb (sb (sb (acM [] [3,17,20,23,30] Tryz.f49) 0).body 1).body 1017) false q35 [⟨.nrm,q35⟩,⟨.ret,q93⟩] (dN n)
def D4 (n:Nat):LP Tryz.prog Tryz.f49.ntmps:=bS (c49E n) [altL (BE n) (yu n) rfl] 1 (sb (sb (acM [] [3,17,20,23,30] Tryz.f49) 0).body 1) false q33 [] [⟨.ret,q92⟩,⟨.exit 2,⟨[(3,.p 2 0),(4,.p 3 0),(5,.p 4 0),(6,.p 5 0),(8,.i .i64),(9,.ws 62),(10,.ws 63),(11,.fn 83 [.p 4 0]),(12,.i .i64)],q19,64,2,2,2⟩⟩] (gI n) n
def Cb (n:Nat):LP Tryz.prog Tryz.f49.ntmps:=bS (c49E n) [altL (BE n) (yu n) rfl] 1 (sb (sb (acM [] [3,17,20,23,30] Tryz.f49) 0).body 1) false q35 [] [⟨.ret,q93⟩,⟨.exit 2,⟨[(3,.p 2 0),(4,.p 3 0),(5,.p 4 0),(6,.p 5 0),(8,.i .i64),(9,.ws 0),(10,.ws 1),(11,.fn 83 [.p 4 0]),(12,.i .i64)],q21,62,2,2,2⟩⟩] (aZ n) n
def Ge (n:Nat):LP Tryz.prog Tryz.f49.ntmps:=bS (c49E n) [altL (D4 n) (Cb n) rfl] 0 (sb (acM [] [3,17,20,23,30] Tryz.f49) 0) false ⟨[(3,.p 2 0),(4,.p 3 0),(5,.p 4 0),(6,.p 5 0),(8,.i .i64),(9,.ws 62),(10,.ws 63),(11,.fn 83 [.p 4 0]),(12,.i .i64),(13,.b)],q19,64,2,2,2⟩ [] [⟨.ret,q92⟩,⟨.exit 0,⟨[(6,.p 5 0)],q43,64,2,2,2⟩⟩] (gR n) n
def Ey (n:Nat):LP Tryz.prog Tryz.f49.ntmps:=bS (c49E n) [altL (D4 n) (Cb n) rfl] 0 (sb (acM [] [3,17,20,23,30] Tryz.f49) 0) false ⟨[(3,.p 2 0),(4,.p 3 0),(5,.p 4 0),(6,.p 5 0),(8,.i .i64),(9,.ws 0),(10,.ws 1),(11,.fn 83 [.p 4 0]),(12,.i .i64),(13,.b)],q21,62,2,2,2⟩ [] [⟨.ret,q93⟩,⟨.exit 0,⟨[(6,.p 5 0)],q43,62,2,2,2⟩⟩] (br n) n
def c49 (n:Nat):FF Tryz.prog 49 [.ag q34,.ag [.i .i64,.i .i64,.i .i64],.b] q83 2 2 [⟨.tp [.ag [.i .i64,.i .i64,.i .i64],.b],[],[],false⟩]:=funC Tryz.func49 Tryz.call49 (c49E n) [FK n,altL (Ge n) (Ey n) rfl] [] [3,17,20,23,30] [0,1] (en n)
def c21 (n:Nat):PF Tryz.prog 21 [.ag q22] (.i .i64):=au Tryz.func21 Tryz.call21 [(c47 n).e,(c48 n).e,(c49 n).e] [] [] [] (aO n)
def c68 (n:Nat):PF Tryz.prog 68 [.ag q22] (.b):=au Tryz.func68 Tryz.call68 [(c103 n).e] [] [] [] (cU n)
def c90 (n:Nat):PF Tryz.prog 90 [.ag q22] (.b):=au Tryz.func90 Tryz.call90 [(c68 n).e] [] [] [] (gL n)
def c58 (n:Nat):PF Tryz.prog 58 [.ag q41] (.i .i64):=au Tryz.func58 Tryz.call58 [(c21 n).e,(c90 n).e] [] [] [] (gO n)
def c93 (n:Nat):FF Tryz.prog 93 [] [] 0 0 [⟨.mp 0,[(0,.mp .u8 [(0,121),(1,122),(2,126),(3,129)])],[0],false⟩]:=funC Tryz.func93 Tryz.call93 [] [] [] [] [] (eM n)
def c44 (n:Nat):PF Tryz.prog 44 [.ag q22] (.i .u8):=au Tryz.func44 Tryz.call44 [(c74 n).e] [] [] [] (aC n)
def c121 (n:Nat):FF Tryz.prog 121 [.i .i64,.ws 0] q74 1 1 [⟨.ag q55,[],[],false⟩]:=funC Tryz.func121 Tryz.call121 [(c108 n).e] [] [] [] [0] (dq n)
def c124 (n:Nat):PF Tryz.prog 124 [.i .i64] (.tp q40):=au Tryz.func124 Tryz.call124 [(c157 n).e,(c158 n).e] [] [] [] (l7 n)
def c159 (n:Nat):PF Tryz.prog 159 [.i .i64] (.ag [.i .i8,.i .i64]):=au Tryz.func159 Tryz.call159 [] [] [] [] (tB n)
def c125 (n:Nat):PF Tryz.prog 125 q40 (.ag q55):=au Tryz.func125 Tryz.call125 [(c159 n).e] [] [] [] (kV n)
def c122 (n:Nat):FF Tryz.prog 122 [.i .i64,.ws 0] q74 1 1 [⟨.ag q55,[],[],false⟩]:=funC Tryz.func122 Tryz.call122 [(c123 n).e,(c124 n).e,(c125 n).e] [] [] [] [0] (dm n)
def c126 (n:Nat):FF Tryz.prog 126 [.i .i64,.ws 0] q74 1 1 [⟨.ag q55,[],[],false⟩]:=funC Tryz.func126 Tryz.call126 [(c127 n).e,(c128 n).e,(c125 n).e] [] [] [] [0] (dn n)
def c160 (n:Nat):PF Tryz.prog 160 [.ag [.i .i64,.i .i64,.i .i64]] (.i .i64):=au Tryz.func160 Tryz.call160 [(c112 n).e] [] [] [] (ky n)
def c130 (n:Nat):PF Tryz.prog 130 [.ag [.i .i64,.i .i64,.i .i64]] (.tp q40):=au Tryz.func130 Tryz.call130 [(c160 n).e,(c127 n).e] [] [] [] (lf n)
def c129 (n:Nat):FF Tryz.prog 129 [.i .i64,.ws 0] q74 1 1 [⟨.ag q55,[],[],false⟩]:=funC Tryz.func129 Tryz.call129 [(c130 n).e,(c125 n).e] [] [] [] [0] (dj n)
def c59 (n:Nat):PF Tryz.prog 59 [.ag q22] (.tp [.ag q55,.i .i64]):=au Tryz.func59 Tryz.call59 [(c21 n).e,(c90 n).e,(c91 n).e,(c92 n),(c93 n).e,(c44 n).e,(c121 n).e,(c122 n).e,(c126 n).e,(c129 n).e] [] [] [] (df n)
def c131 (n:Nat):PF Tryz.prog 131 [.i .i8] (.b):=au Tryz.func131 Tryz.call131 [] [] [] [] (jh n)
def c95 (n:Nat):PF Tryz.prog 95 [.i .i8,.i .i8] (.i .i64):=au Tryz.func95 Tryz.call95 [(c131 n).e] [] [] [] (gZ n)
def c132 (n:Nat):PF Tryz.prog 132 [.i .i64] (.b):=au Tryz.func132 Tryz.call132 [] [] [] [] (fQ n)
def c96 (n:Nat):PF Tryz.prog 96 q40 (.i .i64):=au Tryz.func96 Tryz.call96 [(c132 n).e] [] [] [] (eP n)
def FW (n:Nat):LP Tryz.prog Tryz.f94.ntmps:=bS [] [] 0 (sb (acM [] [] Tryz.f94) 0) false ⟨[(3,.i .i64),(6,.ws 0),(7,.i .i64),(8,.i .i64)],q64,1,1,1,1⟩ [] [⟨.ret,⟨[(2,.i .i64)],[],1,1,1,1⟩⟩,⟨.exit 0,⟨[(3,.i .i64)],[],1,1,1,1⟩⟩] (mu n) n
def c94 (n:Nat):FF Tryz.prog 94 [.ws 0] q74 1 1 [⟨.i .i64,[],[],false⟩]:=funC Tryz.func94 Tryz.call94 [] [FW n] [] [] [0] (jz n)
def c60 (n:Nat):PF Tryz.prog 60 [.ag [.i .i8,.i .i64],.ag [.i .i8,.i .i64]] (.i .i64):=au Tryz.func60 Tryz.call60 [(c95 n).e,(c96 n).e,(c94 n).e] [] [] [] (fB n)
def c32 (n:Nat):PF Tryz.prog 32 [.ag q41,.ag q41] (.i .i64):=au Tryz.func32 Tryz.call32 [(c58 n).e,(c59 n).e,(c60 n).e] [] [0] [] (iR n)
def c37 (n:Nat):FF Tryz.prog 37 [.p 0 0] [.cells q24] 1 1 [⟨.b,[],[],false⟩]:=funC Tryz.func37 Tryz.call37 [] [] [] [] [0] (kK n)
def c41 (n:Nat):PF Tryz.prog 41 [.ag q37] (.b):=au Tryz.func41 Tryz.call41 [(c68 n).e] [] [] [] (iO n)
def c17 (n:Nat):PF Tryz.prog 17 [.ag q37] (.b):=au Tryz.func17 Tryz.call17 [(c21 n).e,(c41 n).e,(c44 n).e] [] [] [] (gu n)
def c39 (n:Nat):PF Tryz.prog 39 [.ag q37,.ag q37] (.b):=au Tryz.func39 Tryz.call39 [(c17 n).e,(c44 n).e,(c59 n).e,(c60 n).e] [] [] [] (iu n)
def c38 (n:Nat):FF Tryz.prog 38 [.p 0 0] [.cells q24] 1 1 [⟨.b,[],[],false⟩]:=funC Tryz.func38 Tryz.call38 [(c39 n).e] [] [] [] [0] (kD n)
def c40 (n:Nat):FF Tryz.prog 40 [.p 0 0,.p 1 0] [.cells [.i .u8],.cells q24] 2 2 [⟨.b,[],[],false⟩]:=funC Tryz.func40 Tryz.call40 [(c41 n).e] [] [] [] [0,1] (ku n)
def c36 (n:Nat):FF Tryz.prog 36 [.sl 0 0 3 (some (.k 3))] [.cells [.i .i64,.fn 37 [.p 1 0],.i .i64,.fn 38 [.p 1 0],.i .i64,.fn 40 [.p 2 0,.p 1 0]],.cells q24,.cells [.i .u8]] 3 3 [⟨.i .i64,[],[],false⟩]:=funC Tryz.func36 Tryz.call36 [(c37 n).e,(c38 n).e,(c40 n).e] [] [0] [] [0,1,2] (cc n)
def c15 (n:Nat):PF Tryz.prog 15 [.ag q24,.i .u8] (.i .i64):=au Tryz.func15 Tryz.call15 [(c21 n).e,(c36 n).e] [] [] [] (ee n)
def c61 (n:Nat):FF Tryz.prog 61 [.p 0 0,.p 1 0] [.cells q24,.cells q53,.rows q12] 3 3 [⟨.b,[],[],false⟩]:=funC Tryz.func61 Tryz.call61 [(c15 n).e] [] [] [] [0,1,2] (jY n)
def c63 (n:Nat):PF Tryz.prog 63 [.ag q24] (.b):=au Tryz.func63 Tryz.call63 [(c17 n).e] [] [] [] (kI n)
def c62 (n:Nat):FF Tryz.prog 62 [.p 0 0,.p 1 0,.p 2 0] [.cells q26,.cells [.i .i64],.cells q24,.rows q12] 4 4 [⟨.b,[],[],false⟩]:=funC Tryz.func62 Tryz.call62 [(c63 n).e] [] [] [] [0,1,2,3] (ka n)
def c64 (n:Nat):FF Tryz.prog 64 [.p 0 0,.p 1 0,.p 2 0,.p 3 0] [.cells q23,.cells [.i .i64],.cells [.i .i64],.cells q24,.rows q12] 5 5 [⟨.b,[],[],false⟩]:=funC Tryz.func64 Tryz.call64 [(c63 n).e] [] [] [] [0,1,2,3,4] (jS n)
def c65 (n:Nat):FF Tryz.prog 65 [.p 0 0,.p 1 0] [.cells q53,.cells [.i .i64],.rows q12] 3 3 [⟨.b,[],[],false⟩]:=funC Tryz.func65 Tryz.call65 [] [] [] [] [0,1,2] (kb n)
def FU (n:Nat):FF Tryz.prog 36 [.sl 0 0 4 (some (.k 4))] [.cells [.i .i64,.fn 61 [.p 1 0,.p 2 0],.i .i64,.fn 62 [.p 2 0,.p 3 0,.p 1 0],.i .i64,.fn 64 [.p 2 0,.p 3 0,.p 4 0,.p 1 0],.i .i64,.fn 65 [.p 2 0,.p 4 0]],.cells q24,.cells q54,.cells [.i .i64],.cells [.i .i64],.rows q12] 6 6 [⟨.i .i64,[],[],false⟩]:=funC Tryz.func36 Tryz.call36 [(c61 n).e,(c62 n).e,(c64 n).e,(c65 n).e] [] [0] [] [0,1,2,3,4,5] (fc n)
def c33E (n:Nat):List (FE Tryz.prog):=[(c15 n).e,(FU n).e]
def FY (n:Nat):LP Tryz.prog Tryz.f33.ntmps:=bS (c33E n) [] 0 (sb (acM [] [] Tryz.f33) 0) true ⟨[(1,.p 1 0),(4,.p 2 0),(13,.ws 0),(14,.i .i64),(15,.i .i64)],[(0,.rows q12),(1,.cells q15),(2,.cells [.i .i64])],3,1,1,1⟩ [] q76 (ef n) n
def c33 (n:Nat):FF Tryz.prog 33 [.ag q15] q91 1 1 [⟨.tp q40,[],[],false⟩]:=funC Tryz.func33 Tryz.call33 (c33E n) [FY n] [] [] [0] (jK n)
def c11 (n:Nat):FF Tryz.prog 11 [.ag q15] q91 1 1 [⟨.tp q40,[],[],false⟩]:=funC Tryz.func11 Tryz.call11 [(c31 n).e,(c21 n).e,(c32 n).e,(c33 n).e] [] [] [] [0] (fA n)
def c46 (n:Nat):FF Tryz.prog 46 [.ws 0] [.rows q56] 1 1 [⟨.rs 10 0 0 .q (some .q),[],[],false⟩]:=funC Tryz.func46 Tryz.call46 [] [] [] [] [0] (aq n)
def c19E (n:Nat):List (FE Tryz.prog):=[(c46 n).e]
def Ft (n:Nat):LP Tryz.prog Tryz.f19.ntmps:=bS (c19E n) [] 1 (sb (acM [0] [] Tryz.f19) 1) true ⟨[(3,.ws 1),(40,.ws 0),(41,.i .i64),(42,.i .i64)],[(0,.rows q12),(1,.rows q56)],2,1,1,1⟩ [] [⟨.exit 3,⟨[(3,.ws 1)],[(1,.rows q56)],2,1,1,1⟩⟩] (jf n) n
def c19 (n:Nat):FF Tryz.prog 19 [.ag q15] q91 1 1 [⟨.rs 10 1 0 .q (some .q),[(1,.rows q56)],[1],false⟩]:=funC Tryz.func19 Tryz.call19 (c19E n) [Ft n] [0] [] [0] (oA n)
def c8 (n:Nat):FF Tryz.prog 8 [.ag q15] q91 1 1 [⟨.i .i64,[],[],false⟩]:=funC Tryz.func8 Tryz.call8 [(c11 n).e] [] [] [] [0] (be n)
def c7 (n:Nat):PF Tryz.prog 7 [] (.b):=au Tryz.func7 Tryz.call7 [(c30 n).e,(c11 n).e,(c19 n).e,(c8 n).e,(c15 n).e] [] [] [] (bA n)
def c18 (n:Nat):PF Tryz.prog 18 [.ag q37] (.i .i64):=au Tryz.func18 Tryz.call18 [(c34 n).e,(c22 n).e,(c45 n).e] [] [] [] (aD n)
def c16 (n:Nat):PF Tryz.prog 16 [.ag q24,.b] (.i .i64):=au Tryz.func16 Tryz.call16 [(c34 n).e,(c18 n).e,(c42 n).e,(c43 n).e,(c22 n).e] [] [] [] (eD n)
def c12E (n:Nat):List (FE Tryz.prog):=[(c34 n).e,(c26 n).e,(c16 n).e,(c18 n).e]
def F5 (n:Nat):LP Tryz.prog Tryz.f12.ntmps:=ct (c12E n) [] 1003 (sb (acM [] [3,4,7,32,33] Tryz.f12) 1003) true ⟨[(1,.p 1 0),(4,.p 2 0),(5,.p 3 0)],q25,4,1,1,1⟩ [⟨.nrm,q68⟩] (d5 n)
def F6 (n:Nat):LP Tryz.prog Tryz.f12.ntmps:=ct (c12E n) [] 1004 (sb (acM [] [3,4,7,32,33] Tryz.f12) 1004) true q68 [⟨.nrm,⟨[(1,.p 1 0),(4,.p 2 0),(5,.p 3 0),(6,.b),(31,.b)],q25,4,1,1,1⟩⟩] (dS n)
def Fj (n:Nat):LP Tryz.prog Tryz.f12.ntmps:=ct (c12E n) [] 1007 (sb (acM [] [3,4,7,32,33] Tryz.f12) 1007) true q68 [⟨.nrm,⟨[(1,.p 1 0),(75,.b)],q84,2,1,1,1⟩⟩] (dY n)
def Eh (n:Nat):LP Tryz.prog Tryz.f12.ntmps:=ct (c12E n) [] 1032 (sb (sb (acM [] [3,4,7,32,33] Tryz.f12) 0).body 1032) true ⟨[(1,.p 1 0),(7,.i .i64),(8,.p 2 0)],q95,3,1,1,1⟩ [⟨.nrm,q67⟩] (dB n)
def ER (n:Nat):LP Tryz.prog Tryz.f12.ntmps:=ct (c12E n) [] 1033 (sb (sb (acM [] [3,4,7,32,33] Tryz.f12) 0).body 1033) true q67 [⟨.nrm,⟨[(1,.p 1 0),(7,.i .i64),(154,.b)],q84,2,1,1,1⟩⟩] (dt n)
def Ga (n:Nat):LP Tryz.prog Tryz.f12.ntmps:=bS (c12E n) [Eh n,ER n] 0 (sb (acM [] [3,4,7,32,33] Tryz.f12) 0) true ⟨[(1,.p 1 0),(7,.i .i64)],q84,2,1,1,1⟩ [] q76 (bY n) n
def c12 (n:Nat):FF Tryz.prog 12 [.ag q15] q91 1 1 [⟨.tp q40,[],[],false⟩]:=funC Tryz.func12 Tryz.call12 (c12E n) [F5 n,F6 n,Fj n,Ga n] [] [3,4,7,32,33] [0] (fj n)
def c9 (n:Nat):FF Tryz.prog 9 [.ag q15] q91 1 1 [⟨.i .i64,[],[],false⟩]:=funC Tryz.func9 Tryz.call9 [(c12 n).e] [] [] [] [0] (bv n)
def c3E (n:Nat):List (FE Tryz.prog):=[(c6 n).e,(c7 n).e,(c8 n).e,(c9 n).e]
def c3l0 (n:Nat):LP Tryz.prog Tryz.f3.ntmps:=bS (c3E n) [] 0 (sb (acM [] [] Tryz.f3) 0) true ⟨[(1,.i .u8),(5,.p 1 0),(6,.p 2 0),(7,.i .i64)],q18,5,1,1,1⟩ [] [⟨.exit 0,⟨[(5,.p 1 0),(6,.p 2 0)],q18,5,1,1,1⟩⟩] (aB n) n
def c3 (n:Nat):FF Tryz.prog 3 [.ag q70,.i .u8] [.rows q13] 1 1 [⟨.b,[],[],false⟩]:=funC Tryz.func3 Tryz.call3 (c3E n) [c3l0 n] [] [] [0] (eA n)
end
end Go.Sh
