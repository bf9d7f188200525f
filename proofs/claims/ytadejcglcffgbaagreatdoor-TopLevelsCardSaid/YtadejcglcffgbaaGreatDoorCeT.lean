import Derived.Test.YtadejcglcffgbaaGreatDoorHGa
import Derived.Test.YtadejcglcffgbaaGreatDoorHGb
import Derived.Test.YtadejcglcffgbaaGreatDoorHGc
import Derived.Test.YtadejcglcffgbaaGreatDoorHGe
set_option linter.unusedVariables false
set_option linter.unusedSimpArgs false
set_option maxRecDepth 100000
set_option maxHeartbeats 4000000
namespace Go.Sh
open Go.Abs Go.Proofs
noncomputable section
abbrev q29:List PV:=[.s,.i .i64]
abbrev q38:List PV:=[.b,.b,.s,.i .i64,.i .i64]
abbrev q124:List PV:=[.ag q38]
abbrev q48:List PV:=[.i .u8,.b,.i .u16,.i .u8,.i .u8,.i .u8,.i .u8,.i .u8,.i .u8,.i .u8]
abbrev q21:List PV:=[.b,.b,.s,.i .i64,.i .i64,.s,.s,.i .u8,.i .u8,.i .u8]
abbrev q97:PSt:=⟨[(2,.i .i64)],[],1,0,0,0⟩
abbrev q80:List PV:=[.ag q21]
abbrev q39:List PV:=[.i .u8,.b,.b,.s,.i .i64,.i .i64,.s,.s,.i .u8,.i .u8,.i .u8]
abbrev q121:PSt:=⟨[(0,.s),(1,.i .i64),(5,.i .i64)],[],0,0,0,0⟩
abbrev q87:List (Nat×PV):=[(4,.i .i64)]
abbrev q109:List PX:=[⟨.ret,⟨q87,[],1,0,0,0⟩⟩,⟨.exit 0,⟨[],[],1,0,0,0⟩⟩]
abbrev q113:List PV:=[.ai .u8 3,.i .i64]
abbrev q107:PSt:=⟨[(1,.p 0 0),(4,.s),(5,.s)],[(0,.cells q38)],1,0,0,0⟩
abbrev q78:List (Nat×PB):=[(0,.rows [.i .i64])]
abbrev q71:List (Nat×PB):=[(0,.cells q21),(1,.rows [.i .i64]),(2,.rows [.i .i64,.i .i64,.i .i64])]
abbrev q98:PSt:=⟨[(1,.i .i64),(2,.p 0 0),(5,.ws 2),(6,.ws 1),(7,.i .i64)],q71,3,0,0,0⟩
abbrev q76:PSt:=⟨[(0,.i .i64),(4,.i .i64),(5,.b)],[],0,0,0,0⟩
abbrev q77:PSt:=⟨[(0,.i .i64),(4,.i .i64),(9,.b)],[],0,0,0,0⟩
abbrev q74:PSt:=⟨[(0,.i .i64),(4,.i .i64),(13,.b)],[],0,0,0,0⟩
abbrev q75:PSt:=⟨[(0,.i .i64),(4,.i .i64),(17,.b)],[],0,0,0,0⟩
abbrev q54:PSt:=⟨[(0,.i .i64),(4,.i .i64),(21,.b)],[],0,0,0,0⟩
abbrev q115:PSt:=⟨[(0,.i .i64),(4,.i .i64),(30,.b)],[],0,0,0,0⟩
abbrev q125:List PX:=[⟨.nrm,⟨[(0,.i .i64),(30,.b)],[],0,0,0,0⟩⟩]
abbrev q79:PSt:=⟨[(0,.i .i64),(1,.i .i64),(5,.i .i64),(6,.i .i64)],[],0,0,0,0⟩
abbrev q96:List PX:=[⟨.exit 0,⟨[(5,.i .i64)],[],0,0,0,0⟩⟩]
abbrev q31:List PV:=[.bd,.b,.s,.i .i64,.i .i64,.s,.s,.i .u8,.i .u8,.i .u8]
abbrev q24:List PV:=[.bd,.b,.s,.i .i64,.i .i64,.s,.s,.i .u8,.i .u8,.i .u8,.b,.bd,.b,.s,.i .i64,.i .i64,.s,.s,.i .u8,.i .u8,.i .u8]
abbrev q12:List Lf:=[.i .u8,.bo,.i .u16,.i .u8,.i .u8,.i .u8,.i .u8,.i .u8,.i .u8,.i .u8,.i .u8,.i .u8,.bo,.i .u16,.i .u8,.i .u8,.i .u8,.i .u8,.i .u8,.i .u8,.i .u8]
abbrev q83:List PV:=[.i .u8,.ws 0,.i .u8,.i .u8,.i .u8]
abbrev q14:List PV:=[.ik .u8 0,.bk false,.bk false,.sk [],.ik .i64 0,.ik .i64 0,.sk [],.sk [],.ik .u8 0,.ik .u8 0,.ik .u8 0,.ik .u8 0,.bk false,.bk false,.sk [],.ik .i64 0,.ik .i64 0,.sk [],.sk [],.ik .u8 0,.ik .u8 0,.ik .u8 0,.ik .u8 0,.bk false,.bk false,.sk [],.ik .i64 0,.ik .i64 0,.sk [],.sk [],.ik .u8 0,.ik .u8 0,.ik .u8 0,.ws 3,.bk false,.bk false]
abbrev q11:List Lf:=[.bo,.bo,.s,.i .i64,.i .i64,.s,.s,.i .u8,.i .u8,.i .u8,.bo,.bo,.bo,.s,.i .i64,.i .i64,.s,.s,.i .u8,.i .u8,.i .u8]
abbrev q32:List (Nat×PB):=[(0,.rows q12),(1,.cells q83),(2,.cells q14),(3,.rows q11)]
abbrev q13:List PV:=[.ik .u8 0,.bk false,.bk false,.sk [],.ik .i64 0,.ik .i64 0,.sk [],.sk [],.ik .u8 0,.ik .u8 0,.ik .u8 0,.ik .u8 0,.bk false,.bk false,.sk [],.ik .i64 0,.ik .i64 0,.sk [],.sk [],.ik .u8 0,.ik .u8 0,.ik .u8 0,.ik .u8 0,.bk false,.bk false,.sk [],.ik .i64 0,.ik .i64 0,.sk [],.sk [],.ik .u8 0,.ik .u8 0,.ik .u8 0,.ws 4,.bk false,.bk false]
abbrev q33:List (Nat×PB):=[(0,.rows q12),(1,.cells q83),(2,.cells q13),(3,.rows q12),(4,.rows q11)]
abbrev q50:PSt:=⟨[(1,.p 1 0),(2,.p 2 0),(3,.rs 21 3 0 .q none),(23,.i .u8),(24,.b)],q33,5,1,1,1⟩
abbrev q51:PSt:=⟨[(1,.p 1 0),(2,.p 2 0),(3,.rs 21 0 0 .q none),(23,.i .u8),(24,.b)],q32,4,1,1,1⟩
abbrev q26:List PV:=[.ik .u8 0,.bk false,.bk false,.sk [],.ik .i64 0,.ik .i64 0,.sk [],.sk [],.ik .u8 0,.ik .u8 0,.ik .u8 0,.ik .u8 0,.bk false,.bk false,.sk [],.ik .i64 0,.ik .i64 0,.sk [],.sk [],.ik .u8 0,.ik .u8 0,.ik .u8 0,.ik .u8 0,.bk false,.bk false,.sk [],.ik .i64 0,.ik .i64 0,.sk [],.sk [],.ik .u8 0,.ik .u8 0,.ik .u8 0,.ws 5,.bk false,.bk false]
abbrev q28:List PV:=[.i .u8,.bd,.b,.s,.i .i64,.i .i64,.s,.s,.i .u8,.i .u8,.i .u8]
abbrev q92:List (Nat×PB):=[(1,.cells q26),(2,.rows q12),(3,.cells q28),(4,.cells q28),(5,.rows q11)]
abbrev q43:List PX:=[⟨.nrm,⟨[(2,.p 1 0),(4,.p 2 0),(5,.p 3 0)],[(1,.cells q13),(2,.cells q28),(3,.cells q28),(4,.rows q11)],5,1,1,1⟩⟩]
abbrev q93:List (Nat×PB):=[(0,.rows q12),(1,.cells q13),(2,.cells q28),(3,.cells q28),(4,.rows q11)]
abbrev q116:List (Nat×PV):=[(2,.p 1 0),(3,.rs 21 2 0 .q none),(6,.p 3 0)]
abbrev q40:List (Nat×PB):=[(1,.cells q13),(2,.rows q12),(3,.cells [.i .u8,.bk false,.bk false,.sk [],.ik .i64 0,.ik .i64 0,.sk [],.sk [],.ik .u8 0,.ik .u8 0,.ik .u8 0,.ik .u8 0,.bk false,.bk false,.sk [],.ik .i64 0,.ik .i64 0,.sk [],.sk [],.ik .u8 0,.ik .u8 0,.ik .u8 0,.ik .u8 0,.bk false,.bk false,.sk [],.ik .i64 0,.ik .i64 0,.sk [],.sk [],.ik .u8 0,.ik .u8 0,.ik .u8 0,.ws 5,.b,.b]),(4,.rows q11),(5,.rows q11)]
abbrev q117:List (Nat×PV):=[(2,.p 1 0),(3,.rs 21 0 0 .q none),(6,.p 2 0)]
abbrev q41:List (Nat×PB):=[(0,.rows q12),(1,.cells q14),(2,.cells [.i .u8,.bk false,.bk false,.sk [],.ik .i64 0,.ik .i64 0,.sk [],.sk [],.ik .u8 0,.ik .u8 0,.ik .u8 0,.ik .u8 0,.bk false,.bk false,.sk [],.ik .i64 0,.ik .i64 0,.sk [],.sk [],.ik .u8 0,.ik .u8 0,.ik .u8 0,.ik .u8 0,.bk false,.bk false,.sk [],.ik .i64 0,.ik .i64 0,.sk [],.sk [],.ik .u8 0,.ik .u8 0,.ik .u8 0,.ws 4,.b,.b]),(3,.rows q11),(4,.rows q11)]
abbrev q19:List PV:=[.i .u8,.bd,.b,.s,.i .i64,.i .i64,.s,.s,.i .u8,.i .u8,.i .u8,.i .u8,.bd,.b,.s,.i .i64,.i .i64,.s,.s,.i .u8,.i .u8,.i .u8,.i .u8,.bd,.b,.s,.i .i64,.i .i64,.s,.s,.i .u8,.i .u8,.i .u8,.ws 4,.b,.b]
abbrev q27:List PV:=[.i .u8,.bd,.b,.s,.i .i64,.i .i64,.s,.s,.i .u8,.i .u8,.i .u8,.i .u8,.bd,.b,.s,.i .i64,.i .i64,.s,.s,.i .u8,.i .u8,.i .u8,.i .u8,.bd,.b,.s,.i .i64,.i .i64,.s,.s,.i .u8,.i .u8,.i .u8,.ws 5,.b,.b]
abbrev q56:List (Nat×PB):=[(1,.cells q19),(2,.rows q12),(3,.cells q27),(4,.rows q11),(5,.rows q11)]
abbrev q22:List PV:=[.i .u8,.bd,.b,.s,.i .i64,.i .i64,.s,.s,.i .u8,.i .u8,.i .u8,.i .u8,.bd,.b,.s,.i .i64,.i .i64,.s,.s,.i .u8,.i .u8,.i .u8,.i .u8,.bd,.b,.s,.i .i64,.i .i64,.s,.s,.i .u8,.i .u8,.i .u8,.ws 3,.b,.b]
abbrev q57:List (Nat×PB):=[(0,.rows q12),(1,.cells q22),(2,.cells q19),(3,.rows q11),(4,.rows q11)]
abbrev q46:List (Nat×PB):=[(1,.cells q22),(2,.cells q19),(3,.rows q11),(4,.rows q11)]
abbrev q85:PSt:=⟨[(2,.p 1 0),(6,.p 2 0),(8,.i .i64)],q46,5,1,1,1⟩
abbrev q118:PSt:=⟨[(2,.p 1 0),(6,.p 2 0),(139,.b)],q46,5,1,1,1⟩
abbrev q42:List PV:=[.i .u8,.bd,.b,.s,.i .i64,.i .i64,.s,.s,.i .u8,.i .u8,.i .u8,.i .u8,.bd,.b,.s,.i .i64,.i .i64,.s,.s,.i .u8,.i .u8,.i .u8,.i .u8,.bd,.b,.s,.i .i64,.i .i64,.s,.s,.i .u8,.i .u8,.i .u8,.ws 1,.b,.b]
abbrev q66:List PB:=[.rows q11]
abbrev q16:List PV:=[.i .u8,.bd,.b,.s,.i .i64,.i .i64,.s,.s,.i .u8,.i .u8,.i .u8,.i .u8,.bd,.b,.s,.i .i64,.i .i64,.s,.s,.i .u8,.i .u8,.i .u8,.i .u8,.bd,.b,.s,.i .i64,.i .i64,.s,.s,.i .u8,.i .u8,.i .u8,.ws 0,.b,.b]
abbrev q101:List PV:=[.ag q16]
abbrev q58:List PV:=[.i .u8,.bd,.b,.s,.i .i64,.i .i64,.s,.s,.i .u8,.i .u8,.i .u8,.i .u8,.bd,.b,.s,.i .i64,.i .i64,.s,.s,.i .u8,.i .u8,.i .u8,.i .u8,.bd,.b,.s,.i .i64,.i .i64,.s,.s,.i .u8,.i .u8,.i .u8,.rs 21 1 0 .q (some .q),.b,.b]
abbrev q15:List PV:=[.i .u8,.bd,.b,.s,.i .i64,.i .i64,.s,.s,.i .u8,.i .u8,.i .u8,.i .u8,.bd,.b,.s,.i .i64,.i .i64,.s,.s,.i .u8,.i .u8,.i .u8,.i .u8,.bd,.b,.s,.i .i64,.i .i64,.s,.s,.i .u8,.i .u8,.i .u8,.rs 21 0 0 .q (some .q),.b,.b]
abbrev q106:List PV:=[.ag q15]
abbrev q108:List (Nat×PV):=[(0,.s),(7,.s),(8,.i .i64),(9,.i .i64),(12,.i .i64)]
abbrev q67:List PV:=[.i .i8,.i .i64,.i .i8,.i .i64]
abbrev q35:List PV:=[.b,.b,.s,.i .i64,.i .i64,.s,.s,.i .u8,.i .u8,.i .u8,.ws 0,.ws 1]
abbrev q89:List PB:=[.rows [.i .i64]]
abbrev q73:PSt:=⟨[(0,.s),(1,.i .i64),(2,.b),(8,.i .u8),(9,.i .u8),(10,.p 0 0),(11,.p 1 0),(12,.i .i64)],[(0,.ints .u8 18),(1,.ints .u8 18)],2,0,0,0⟩
abbrev q100:List PB:=[.rows [.i .i64],.rows [.i .i64]]
abbrev q69:List (Nat×PB):=[(0,.rows [.i .i64]),(1,.rows [.i .i64]),(2,.cells q35),(3,.cells [.i .i64,.i .i64,.i .i64]),(4,.cells [.b]),(5,.cells [.ik .i64 0,.ik .i64 0,.ik .i64 0])]
abbrev q18:List (Nat×PB):=[(0,.rows [.i .i64]),(1,.rows [.i .i64]),(2,.cells q35),(3,.cells [.i .i64,.i .i64,.i .i64]),(4,.cells [.b]),(5,.cells [.i .i64,.i .i64,.i .i64]),(62,.rows [.i .i64]),(63,.rows [.i .i64])]
abbrev q20:List (Nat×PB):=[(0,.rows [.i .i64]),(1,.rows [.i .i64]),(2,.cells q35),(3,.cells [.i .i64,.i .i64,.i .i64]),(4,.cells [.b]),(5,.cells [.i .i64,.i .i64,.i .i64])]
abbrev q62:PSt:=⟨[(3,.p 2 0),(4,.p 3 0),(5,.p 4 0),(6,.p 5 0),(8,.i .i64),(9,.ws 62),(10,.ws 63),(11,.fn 84 [.p 4 0]),(12,.i .i64),(15,.i .i64),(16,.b),(17,.i .i64),(53,.ws 62),(54,.i .i64),(55,.i .i64)],q18,64,2,2,2⟩
abbrev q64:PSt:=⟨[(3,.p 2 0),(4,.p 3 0),(5,.p 4 0),(6,.p 5 0),(8,.i .i64),(9,.ws 0),(10,.ws 1),(11,.fn 84 [.p 4 0]),(12,.i .i64),(15,.i .i64),(16,.b),(17,.i .i64),(53,.ws 0),(54,.i .i64),(55,.i .i64)],q20,62,2,2,2⟩
abbrev q81:List (Nat×PV):=[(6,.p 5 0),(7,.b)]
abbrev q45:List (Nat×PB):=[(5,.cells [.i .i64,.i .i64,.i .i64])]
abbrev q119:PSt:=⟨q81,q45,64,2,2,2⟩
abbrev q34:PSt:=⟨[(3,.p 2 0),(4,.p 3 0),(5,.p 4 0),(6,.p 5 0),(8,.i .i64),(9,.ws 62),(10,.ws 63),(11,.fn 84 [.p 4 0]),(12,.i .i64),(53,.ws 62),(54,.i .i64),(55,.i .i64)],q18,64,2,2,2⟩
abbrev q120:PSt:=⟨q81,q45,62,2,2,2⟩
abbrev q36:PSt:=⟨[(3,.p 2 0),(4,.p 3 0),(5,.p 4 0),(6,.p 5 0),(8,.i .i64),(9,.ws 0),(10,.ws 1),(11,.fn 84 [.p 4 0]),(12,.i .i64),(53,.ws 0),(54,.i .i64),(55,.i .i64)],q20,62,2,2,2⟩
abbrev q102:List PV:=[.p 0 0,.p 1 0]
abbrev q59:List PV:=[.i .u8,.bd,.b,.s,.i .i64,.i .i64,.s,.s,.i .u8,.i .u8,.i .u8,.i .u8,.bd,.b,.s,.i .i64,.i .i64,.s,.s,.i .u8,.i .u8,.i .u8,.i .u8,.bd,.b,.s,.i .i64,.i .i64,.s,.s,.i .u8,.i .u8,.i .u8,.rs 21 2 0 .q (some .q),.b,.b]
abbrev q70:List PV:=[.i .i64,.fn 152 [.p 1 0,.p 2 0],.i .i64,.fn 153 [.p 2 0,.p 3 0,.p 1 0],.i .i64,.fn 155 [.p 2 0,.p 3 0,.p 4 0,.p 1 0],.i .i64,.fn 156 [.p 2 0,.p 4 0]]
abbrev q95:List PX:=[⟨.ret,⟨[(2,.i .i64),(3,.i .i64)],[],1,1,1,1⟩⟩,⟨.exit 0,⟨[],[],1,1,1,1⟩⟩]
abbrev q91:PSt:=⟨[(0,.sl 0 0 .q (some .q)),(3,.i .u8),(4,.i .i64)],[(0,.ints .u8 3)],1,1,1,1⟩
def c94(n:Nat):PF Tryz.prog 94 [.i .u16] (.s):=aM Tryz.func94 Tryz.call94 [] [] [] [] (lc n)
def X0(n:Nat):LP Tryz.prog Tryz.f145.ntmps:=cA [] [] 0 (sb (acM [] [] Tryz.f145) 0) false ⟨[(0,.s),(1,.i .u8),(2,.i .u8),(7,.i .i64),(8,.i .i64)],[],0,0,0,0⟩ [] [⟨.exit 0,⟨[(7,.i .i64)],[],0,0,0,0⟩⟩] (ii n) n
def c145(n:Nat):PF Tryz.prog 145 [.s,.i .u8,.i .u8] (.i .i64):=aM Tryz.func145 Tryz.call145 [] [X0 n] [] [] (gD n)
def Zm(n:Nat):LP Tryz.prog Tryz.f99.ntmps:=cA [] [] 0 (sb (acM [] [] Tryz.f99) 0) false ⟨[(0,.s),(1,.i .i64),(6,.i .i64),(7,.i .i64)],[],0,0,0,0⟩ [] [⟨.ret,⟨[(4,.i .i64),(5,.i .i64)],[],0,0,0,0⟩⟩,⟨.exit 0,⟨[(6,.i .i64)],[],0,0,0,0⟩⟩] (fq n) n
def c99(n:Nat):PF Tryz.prog 99 q29 (.tp [.i .i64,.i .i64]):=aM Tryz.func99 Tryz.call99 [] [Zm n] [] [] (ak n)
def c95(n:Nat):PF Tryz.prog 95 q124 (.i .i64):=aM Tryz.func95 Tryz.call95 [(c145 n).e,(c99 n).e] [] [] [] (cO n)
def c44E(n:Nat):List (FE Tryz.prog):=[(c94 n).e,(c95 n).e]
def Zu(n:Nat):LP Tryz.prog Tryz.f44.ntmps:=cA (c44E n) [] 0 (sb (acM [] [] Tryz.f44) 0) false ⟨[(2,.p 1 0),(3,.p 50 0),(4,.i .i64),(5,.i .i64),(6,.s),(7,.i .i64)],[(1,.cells q38),(50,.cells q38)],162,0,0,0⟩ [] [⟨.exit 1,⟨[(2,.p 1 0),(3,.p 50 0),(6,.s)],[(1,.cells q38),(50,.cells q38)],162,0,0,0⟩⟩] (gv n) n
def c44(n:Nat):PF Tryz.prog 44 [.ag [.i .u8,.b,.i .u16,.i .u8,.i .u8]] (.ag q38):=aM Tryz.func44 Tryz.call44 (c44E n) [Zu n] [] [] (jy n)
def c96(n:Nat):PF Tryz.prog 96 [.i .i64] (.s):=aM Tryz.func96 Tryz.call96 [] [] [] [] (aX n)
def c45(n:Nat):PF Tryz.prog 45 [.ag q48] (.s):=aM Tryz.func45 Tryz.call45 [(c96 n).e] [] [] [] (gA n)
def c46E(n:Nat):List (FE Tryz.prog):=[(c96 n).e]
def Zf(n:Nat):LP Tryz.prog Tryz.f46.ntmps:=cA (c46E n) [] 0 (sb (acM [] [] Tryz.f46) 0) false ⟨[(1,.p 0 0),(3,.i .i64)],[(0,.cells q21)],1,0,0,0⟩ [] [⟨.ret,q97⟩,⟨.exit 0,⟨[],[],1,0,0,0⟩⟩] (bN n) n
def c46(n:Nat):PF Tryz.prog 46 q80 (.i .i64):=aM Tryz.func46 Tryz.call46 (c46E n) [Zf n] [] [] (aQ n)
def c47(n:Nat):PF Tryz.prog 47 [.ag q48,.s] (.s):=aM Tryz.func47 Tryz.call47 [(c96 n).e] [] [] [] (iV n)
def c48(n:Nat):PF Tryz.prog 48 q80 (.i .i64):=aM Tryz.func48 Tryz.call48 [] [] [] [] (am n)
def c16(n:Nat):PF Tryz.prog 16 [.ag q48] (.ag q21):=aM Tryz.func16 Tryz.call16 [(c44 n).e,(c45 n).e,(c46 n).e,(c47 n).e,(c48 n).e] [] [0] [] (aH n)
def c19(n:Nat):PF Tryz.prog 19 [.ag q48] (.ag q21):=aM Tryz.func19 Tryz.call19 [(c16 n).e] [] [] [] (bE n)
def c17(n:Nat):PF Tryz.prog 17 [.ag [.i .u8,.i .u8,.b,.i .u16,.i .u8,.i .u8,.i .u8,.i .u8,.i .u8,.i .u8,.i .u8]] (.ag q39):=aM Tryz.func17 Tryz.call17 [(c19 n).e] [] [] [] (cj n)
def c257(n:Nat):PF Tryz.prog 257 q124 (.i .i64):=aM Tryz.func257 Tryz.call257 [(c145 n).e] [] [] [] (aE n)
def c199(n:Nat):PF Tryz.prog 199 q80 (.i .i64):=aM Tryz.func199 Tryz.call199 [(c95 n).e,(c46 n).e,(c257 n).e,(c99 n).e] [] [] [] (ji n)
def c258(n:Nat):PF Tryz.prog 258 q29 (.i .i64):=aM Tryz.func258 Tryz.call258 [(c96 n).e] [] [] [] (eC n)
def XK(n:Nat):List (FE Tryz.prog):=[(c258 n).e]
def YG(n:Nat):LP Tryz.prog Tryz.f200.ntmps:=cA (XK n) [] 0 (sb (acM [] [] Tryz.f200) 0) false q121 [] [⟨.ret,⟨q87,[],0,0,0,0⟩⟩,⟨.exit 0,⟨[],[],0,0,0,0⟩⟩] (dN n) n
def c200(n:Nat):PF Tryz.prog 200 q29 (.i .i64):=aM Tryz.func200 Tryz.call200 (XK n) [YG n] [] [] (dP n)
def WI(n:Nat):LP Tryz.prog Tryz.f201.ntmps:=cA [] [] 0 (sb (acM [] [] Tryz.f201) 0) false ⟨[(1,.i .i64),(2,.p 0 0),(5,.i .i64)],[(0,.ints .u8 3)],1,0,0,0⟩ [] q109 (dI n) n
def c201(n:Nat):PF Tryz.prog 201 q113 (.i .i64):=aM Tryz.func201 Tryz.call201 [] [WI n] [] [] (bU n)
def c146(n:Nat):PF Tryz.prog 146 q80 (.i .i64):=aM Tryz.func146 Tryz.call146 [(c199 n).e,(c46 n).e,(c200 n).e,(c48 n).e,(c201 n).e] [] [] [] (kn n)
def Vv(n:Nat):List (FE Tryz.prog):=[(c257 n).e,(c99 n).e]
def Wb(n:Nat):LP Tryz.prog Tryz.f202.ntmps:=cA (Vv n) [] 0 (sb (acM [] [] Tryz.f202) 0) false ⟨[(1,.p 0 0),(4,.s),(5,.s),(6,.i .i64)],[(0,.cells q38)],1,0,0,0⟩ [] [⟨.exit 0,q107⟩] (gh n) n
def V9(n:Nat):LP Tryz.prog Tryz.f202.ntmps:=cA (Vv n) [] 1 (sb (acM [] [] Tryz.f202) 1) false ⟨[(1,.p 0 0),(4,.s),(5,.s),(9,.i .i64)],[(0,.cells q38)],1,0,0,0⟩ [] [⟨.exit 2,q107⟩] (oI n) n
def c202(n:Nat):PF Tryz.prog 202 q124 (.tp [.i .i64,.i .i64]):=aM Tryz.func202 Tryz.call202 (Vv n) [Wb n,V9 n] [] [] (aL n)
def WF(n:Nat):List (FE Tryz.prog):=[(c257 n).e,(c99 n).e]
def V4(n:Nat):LP Tryz.prog Tryz.f203.ntmps:=cA (WF n) [] 0 (sb (acM [] [] Tryz.f203) 0) false ⟨[(1,.i .i64),(2,.p 0 0),(5,.i .i64)],[(0,.cells q38)],1,0,0,0⟩ [] [⟨.ret,⟨q87,[],1,0,0,0⟩⟩,⟨.exit 0,⟨[(1,.i .i64)],[],1,0,0,0⟩⟩] (bP n) n
def c203(n:Nat):PF Tryz.prog 203 [.ag q38,.i .i64] (.i .i64):=aM Tryz.func203 Tryz.call203 (WF n) [V4 n] [] [] (nE n)
def XO(n:Nat):List (FE Tryz.prog):=[(c46 n).e,(c258 n).e]
def YH(n:Nat):LP Tryz.prog Tryz.f259.ntmps:=cA (XO n) [] 0 (sb (acM [] [] Tryz.f259) 0) false ⟨[(1,.p 0 0),(3,.ws 1),(4,.i .i64)],[(0,.cells q21),(1,.rows [.i .i64])],2,0,0,0⟩ [.nilT 3 1 [.i .i64]] [⟨.exit 0,⟨[(3,.ws 1)],[(1,.rows [.i .i64])],2,0,0,0⟩⟩] (ef n) n
def c259(n:Nat):FF Tryz.prog 259 q80 [] 0 0 [⟨.ws 0,q78,[0],false⟩]:=funC Tryz.func259 Tryz.call259 (XO n) [YH n] [] [] [] (jI n)
def c148(n:Nat):PF Tryz.prog 148 [.i .i64,.i .i64] (.i .i64):=aM Tryz.func148 Tryz.call148 [] [] [] [] (eQ n)
def Up(n:Nat):List (FE Tryz.prog):=[(c259 n).e,(c148 n).e,(c258 n).e]
def Xi(n:Nat):LP Tryz.prog Tryz.f204.ntmps:=cA (Up n) [] 1 (sb (sb (acM [] [] Tryz.f204) 0).body 1) false ⟨[(1,.i .i64),(2,.p 0 0),(5,.ws 2),(6,.ws 1),(7,.i .i64),(8,.i .i64)],q71,3,0,0,0⟩ [] [⟨.exit 2,q98⟩] (eZ n) n
def W0(n:Nat):LP Tryz.prog Tryz.f204.ntmps:=cA (Up n) [Xi n] 0 (sb (acM [] [] Tryz.f204) 0) false q98 [.nilT 5 2 [.i .i64,.i .i64,.i .i64]] [⟨.exit 0,⟨[(5,.ws 2)],[(2,.rows [.i .i64,.i .i64,.i .i64])],3,0,0,0⟩⟩] (fb n) n
def c204(n:Nat):FF Tryz.prog 204 [.ag q21,.i .i64] [] 0 0 [⟨.ws 0,[(0,.rows [.i .i64,.i .i64,.i .i64])],[0],false⟩]:=funC Tryz.func204 Tryz.call204 (Up n) [W0 n] [] [] [] (kV n)
def VZ(n:Nat):List (FE Tryz.prog):=[(c202 n).e,(c203 n).e,(c204 n).e]
def XM(n:Nat):LP Tryz.prog Tryz.f147.ntmps:=cA (VZ n) [] 0 (sb (acM [] [] Tryz.f147) 0) false ⟨[(1,.p 0 0),(4,.i .i64),(5,.i .i64)],[(0,.cells q21)],1,0,0,0⟩ [] [⟨.ret,q97⟩,⟨.exit 0,⟨[],[],1,0,0,0⟩⟩] (gj n) n
def c147(n:Nat):PF Tryz.prog 147 q80 (.i .i64):=aM Tryz.func147 Tryz.call147 (VZ n) [XM n] [] [] (kZ n)
def c97(n:Nat):PF Tryz.prog 97 q80 (.i .i64):=aM Tryz.func97 Tryz.call97 [(c146 n).e,(c147 n).e] [] [] [] (kj n)
def Y0(n:Nat):LP Tryz.prog Tryz.f98.ntmps:=cA [] [] 0 (sb (acM [] [] Tryz.f98) 0) false ⟨[(1,.p 0 0),(3,.s),(4,.i .i64)],[(0,.cells q21)],1,0,0,0⟩ [] [⟨.ret,q97⟩,⟨.exit 0,⟨[(1,.p 0 0)],[(0,.cells q21)],1,0,0,0⟩⟩] (eD n) n
def c98(n:Nat):PF Tryz.prog 98 q80 (.i .i64):=aM Tryz.func98 Tryz.call98 [] [Y0 n] [] [] (kl n)
def c49(n:Nat):PF Tryz.prog 49 [.ag q39] (.i .i64):=aM Tryz.func49 Tryz.call49 [(c97 n).e,(c98 n).e] [] [] [] (fe n)
def XJ(n:Nat):List (FE Tryz.prog):=[(c148 n).e]
def Xm(n:Nat):LP Tryz.prog Tryz.f100.ntmps:=cA (XJ n) [] 0 (sb (acM [] [] Tryz.f100) 0) false ⟨[(0,.i .i64),(4,.i .i64),(5,.i .i64)],[],0,0,0,0⟩ [] [⟨.exit 0,⟨q87,[],0,0,0,0⟩⟩] (dh n) n
def c100(n:Nat):PF Tryz.prog 100 [.i .i64] (.i .i64):=aM Tryz.func100 Tryz.call100 (XJ n) [Xm n] [] [] (cn n)
def Xl(n:Nat):LP Tryz.prog Tryz.f101.ntmps:=gi [] [] 1006 (sb (sb (acM [] [4,6,11,13,18,20,25,27,32,34,36,41,43] Tryz.f101) 1004) 1006) false q76 [⟨.nrm,q76⟩] (m8 n)
def Yt(n:Nat):LP Tryz.prog Tryz.f101.ntmps:=gi [] [Xl n] 1004 (sb (acM [] [4,6,11,13,18,20,25,27,32,34,36,41,43] Tryz.f101) 1004) false q76 [⟨.nrm,q76⟩] (m6 n)
def Vf(n:Nat):LP Tryz.prog Tryz.f101.ntmps:=gi [] [] 1013 (sb (sb (acM [] [4,6,11,13,18,20,25,27,32,34,36,41,43] Tryz.f101) 1011) 1013) false q77 [⟨.nrm,q77⟩] (mG n)
def UJ(n:Nat):LP Tryz.prog Tryz.f101.ntmps:=gi [] [Vf n] 1011 (sb (acM [] [4,6,11,13,18,20,25,27,32,34,36,41,43] Tryz.f101) 1011) false q77 [⟨.nrm,q77⟩] (mI n)
def UF(n:Nat):LP Tryz.prog Tryz.f101.ntmps:=gi [] [] 1020 (sb (sb (acM [] [4,6,11,13,18,20,25,27,32,34,36,41,43] Tryz.f101) 1018) 1020) false q74 [⟨.nrm,q74⟩] (mA n)
def Uh(n:Nat):LP Tryz.prog Tryz.f101.ntmps:=gi [] [UF n] 1018 (sb (acM [] [4,6,11,13,18,20,25,27,32,34,36,41,43] Tryz.f101) 1018) false q74 [⟨.nrm,q74⟩] (mK n)
def VN(n:Nat):LP Tryz.prog Tryz.f101.ntmps:=gi [] [] 1027 (sb (sb (acM [] [4,6,11,13,18,20,25,27,32,34,36,41,43] Tryz.f101) 1025) 1027) false q75 [⟨.nrm,q75⟩] (mJ n)
def UN(n:Nat):LP Tryz.prog Tryz.f101.ntmps:=gi [] [VN n] 1025 (sb (acM [] [4,6,11,13,18,20,25,27,32,34,36,41,43] Tryz.f101) 1025) false q75 [⟨.nrm,q75⟩] (mO n)
def VP(n:Nat):LP Tryz.prog Tryz.f101.ntmps:=gi [] [] 1036 (sb (sb (sb (acM [] [4,6,11,13,18,20,25,27,32,34,36,41,43] Tryz.f101) 1032) 1034) 1036) false q54 [⟨.nrm,q54⟩] (mu n)
def Tz(n:Nat):LP Tryz.prog Tryz.f101.ntmps:=gi [] [VP n] 1034 (sb (sb (acM [] [4,6,11,13,18,20,25,27,32,34,36,41,43] Tryz.f101) 1032) 1034) false q54 [⟨.nrm,q54⟩] (mz n)
def TP(n:Nat):LP Tryz.prog Tryz.f101.ntmps:=gi [] [Tz n] 1032 (sb (acM [] [4,6,11,13,18,20,25,27,32,34,36,41,43] Tryz.f101) 1032) false q54 [⟨.nrm,q54⟩] (my n)
def To(n:Nat):LP Tryz.prog Tryz.f101.ntmps:=gi [] [] 1043 (sb (sb (acM [] [4,6,11,13,18,20,25,27,32,34,36,41,43] Tryz.f101) 1041) 1043) false q115 q125 (mR n)
def Vu(n:Nat):LP Tryz.prog Tryz.f101.ntmps:=gi [] [To n] 1041 (sb (acM [] [4,6,11,13,18,20,25,27,32,34,36,41,43] Tryz.f101) 1041) false q115 q125 (mS n)
def c101(n:Nat):PF Tryz.prog 101 [.i .i64] (.tp [.i .i64,.i .i64]):=aM Tryz.func101 Tryz.call101 [] [Yt n,UJ n,Uh n,UN n,TP n,Vu n] [] [4,6,11,13,18,20,25,27,32,34,36,41,43] (ij n)
def XV(n:Nat):List (FE Tryz.prog):=[(c100 n).e,(c148 n).e]
def Wz(n:Nat):LP Tryz.prog Tryz.f102.ntmps:=cA (XV n) [] 0 (sb (acM [] [] Tryz.f102) 0) false q79 [] q96 (lI n) n
def c102(n:Nat):PF Tryz.prog 102 [.i .i64,.i .i64] (.i .i64):=aM Tryz.func102 Tryz.call102 (XV n) [Wz n] [] [] (ot n)
def MD(n:Nat):List (FE Tryz.prog):=[(c102 n).e,(c100 n).e,(c148 n).e]
def QK(n:Nat):LP Tryz.prog Tryz.f102.ntmps:=cA (MD n) [] 0 (sb (acM [] [] Tryz.f102) 0) false q79 [] q96 (i6 n) n
def Xx(n:Nat):PF Tryz.prog 102 [.i .i64,.i .i64] (.i .i64):=aM Tryz.func102 Tryz.call102 (MD n) [QK n] [] [] (ku n)
def NL(n:Nat):List (FE Tryz.prog):=[(Xx n).e,(c100 n).e,(c148 n).e]
def Qu(n:Nat):LP Tryz.prog Tryz.f102.ntmps:=cA (NL n) [] 0 (sb (acM [] [] Tryz.f102) 0) false q79 [] q96 (ky n) n
def XF(n:Nat):PF Tryz.prog 102 [.i .i64,.i .i64] (.i .i64):=aM Tryz.func102 Tryz.call102 (NL n) [Qu n] [] [] (aR n)
def c103(n:Nat):PF Tryz.prog 103 [.s] (.i .i64):=aM Tryz.func103 Tryz.call103 [] [] [] [] (aY n)
def c50(n:Nat):PF Tryz.prog 50 q80 (.tp [.i .i64,.i .i64]):=aM Tryz.func50 Tryz.call50 [(c99 n).e,(c46 n).e,(c100 n).e,(c101 n).e,(XF n).e,(c103 n).e] [] [] [] (dk n)
def c18(n:Nat):PF Tryz.prog 18 [.ag q39,.ag q39] (.i .i64):=aM Tryz.func18 Tryz.call18 [(c49 n).e,(c50 n).e] [] [] [] (ie n)
def c21(n:Nat):PF Tryz.prog 21 [.ag q48] (.ag q31):=aM Tryz.func21 Tryz.call21 [(c19 n).e] [] [] [] (ck n)
def c51(n:Nat):PF Tryz.prog 51 [.ag q31,.i .i64] (.ag q31):=aM Tryz.func51 Tryz.call51 [] [] [] [] (kb n)
def c20(n:Nat):PF Tryz.prog 20 [.ag [.i .u8,.b,.i .u16,.i .u8,.i .u8,.i .u8,.i .u8,.i .u8,.i .u8,.i .u8,.i .u8,.i .u8,.b,.i .u16,.i .u8,.i .u8,.i .u8,.i .u8,.i .u8,.i .u8,.i .u8],.b] (.ag q24):=aM Tryz.func20 Tryz.call20 [(c21 n).e,(c48 n).e,(c51 n).e,(c50 n).e,(c19 n).e,(c16 n).e] [] [] [] (ic n)
def c4E(n:Nat):List (FE Tryz.prog):=[(c16 n).e,(c17 n).e,(c18 n).e,(c19 n).e,(c20 n).e,(c21 n).e]
def c4j3(n:Nat):LP Tryz.prog Tryz.f4.ntmps:=gi (c4E n) [] 1003 (sb (acM [] [3,9,11,16,22,24,30,41,44,46,47] Tryz.f4) 1003) true ⟨[(1,.p 1 0),(2,.p 2 0),(3,.ws 0),(13,.b)],q32,4,1,1,1⟩ [⟨.nrm,⟨[(1,.p 1 0),(2,.p 2 0),(3,.ws 3)],q33,5,1,1,1⟩⟩,⟨.nrm,⟨[(1,.p 1 0),(2,.p 2 0),(3,.ws 0)],q32,4,1,1,1⟩⟩] (lA n)
def V6(n:Nat):LP Tryz.prog Tryz.f4.ntmps:=gi (c4E n) [] 1011 (sb (sb (acM [] [3,9,11,16,22,24,30,41,44,46,47] Tryz.f4) 1009) 1011) true q50 [⟨.nrm,q50⟩] (kv n)
def RN(n:Nat):LP Tryz.prog Tryz.f4.ntmps:=gi (c4E n) [] 1011 (sb (sb (acM [] [3,9,11,16,22,24,30,41,44,46,47] Tryz.f4) 1009) 1011) true q51 [⟨.nrm,q51⟩] (jO n)
def c4j9(n:Nat):LP Tryz.prog Tryz.f4.ntmps:=gi (c4E n) [altL (V6 n) (RN n) rfl] 1009 (sb (acM [] [3,9,11,16,22,24,30,41,44,46,47] Tryz.f4) 1009) true q50 [⟨.nrm,q50⟩] (jd n)
def ZB(n:Nat):LP Tryz.prog Tryz.f4.ntmps:=gi (c4E n) [altL (V6 n) (RN n) rfl] 1009 (sb (acM [] [3,9,11,16,22,24,30,41,44,46,47] Tryz.f4) 1009) true q51 [⟨.nrm,q51⟩] (iL n)
def YX(n:Nat):LP Tryz.prog Tryz.f4.ntmps:=gi (c4E n) [] 1016 (sb (acM [] [3,9,11,16,22,24,30,41,44,46,47] Tryz.f4) 1016) true ⟨[(1,.p 1 0),(2,.p 2 0),(3,.rs 21 3 0 .q none),(23,.i .u8),(34,.b)],q33,5,1,1,1⟩ [⟨.nrm,⟨[(1,.p 1 0),(2,.p 2 0),(3,.rs 21 3 0 .q none),(34,.b)],q33,5,1,1,1⟩⟩] (iO n)
def WC(n:Nat):LP Tryz.prog Tryz.f4.ntmps:=gi (c4E n) [] 1016 (sb (acM [] [3,9,11,16,22,24,30,41,44,46,47] Tryz.f4) 1016) true ⟨[(1,.p 1 0),(2,.p 2 0),(3,.rs 21 0 0 .q none),(23,.i .u8),(34,.b)],q32,4,1,1,1⟩ [⟨.nrm,⟨[(1,.p 1 0),(2,.p 2 0),(3,.rs 21 0 0 .q none),(34,.b)],q32,4,1,1,1⟩⟩] (g9 n)
def Yl(n:Nat):LP Tryz.prog Tryz.f4.ntmps:=gi (c4E n) [] 1024 (sb (sb (acM [] [3,9,11,16,22,24,30,41,44,46,47] Tryz.f4) 1022) 1024) true ⟨[(2,.p 1 0),(3,.rs 21 2 0 .q none),(4,.p 3 0),(5,.p 4 0),(61,.b)],q92,6,1,1,1⟩ q43 (kx n)
def Sz(n:Nat):LP Tryz.prog Tryz.f4.ntmps:=gi (c4E n) [] 1024 (sb (sb (acM [] [3,9,11,16,22,24,30,41,44,46,47] Tryz.f4) 1022) 1024) true ⟨[(2,.p 1 0),(3,.rs 21 0 0 .q none),(4,.p 2 0),(5,.p 3 0),(61,.b)],q93,5,1,1,1⟩ q43 (jN n)
def Zs(n:Nat):LP Tryz.prog Tryz.f4.ntmps:=gi (c4E n) [altL (Yl n) (Sz n) rfl] 1022 (sb (acM [] [3,9,11,16,22,24,30,41,44,46,47] Tryz.f4) 1022) true ⟨[(2,.p 1 0),(3,.rs 21 2 0 .q none),(4,.p 3 0),(5,.p 4 0),(58,.b)],q92,6,1,1,1⟩ q43 (iz n)
def X4(n:Nat):LP Tryz.prog Tryz.f4.ntmps:=gi (c4E n) [altL (Yl n) (Sz n) rfl] 1022 (sb (acM [] [3,9,11,16,22,24,30,41,44,46,47] Tryz.f4) 1022) true ⟨[(2,.p 1 0),(3,.rs 21 0 0 .q none),(4,.p 2 0),(5,.p 3 0),(58,.b)],q93,5,1,1,1⟩ q43 (gX n)
def Y9(n:Nat):LP Tryz.prog Tryz.f4.ntmps:=gi (c4E n) [] 1030 (sb (acM [] [3,9,11,16,22,24,30,41,44,46,47] Tryz.f4) 1030) true ⟨[(2,.p 1 0),(3,.rs 21 2 0 .q none),(6,.p 3 0),(86,.b)],[(1,.cells q13),(2,.rows q12),(3,.cells [.ik .u8 3,.bk false,.bk false,.sk [],.ik .i64 0,.ik .i64 0,.sk [],.sk [],.ik .u8 0,.ik .u8 0,.ik .u8 0,.ik .u8 0,.bk false,.bk false,.sk [],.ik .i64 0,.ik .i64 0,.sk [],.sk [],.ik .u8 0,.ik .u8 0,.ik .u8 0,.ik .u8 0,.bk false,.bk false,.sk [],.ik .i64 0,.ik .i64 0,.sk [],.sk [],.ik .u8 0,.ik .u8 0,.ik .u8 0,.ws 5,.b,.b]),(4,.rows q11),(5,.rows q11)],6,1,1,1⟩ [⟨.nrm,⟨q116,q40,6,1,1,1⟩⟩] (iu n)
def V1(n:Nat):LP Tryz.prog Tryz.f4.ntmps:=gi (c4E n) [] 1030 (sb (acM [] [3,9,11,16,22,24,30,41,44,46,47] Tryz.f4) 1030) true ⟨[(2,.p 1 0),(3,.rs 21 0 0 .q none),(6,.p 2 0),(86,.b)],[(0,.rows q12),(1,.cells q14),(2,.cells [.ik .u8 3,.bk false,.bk false,.sk [],.ik .i64 0,.ik .i64 0,.sk [],.sk [],.ik .u8 0,.ik .u8 0,.ik .u8 0,.ik .u8 0,.bk false,.bk false,.sk [],.ik .i64 0,.ik .i64 0,.sk [],.sk [],.ik .u8 0,.ik .u8 0,.ik .u8 0,.ik .u8 0,.bk false,.bk false,.sk [],.ik .i64 0,.ik .i64 0,.sk [],.sk [],.ik .u8 0,.ik .u8 0,.ik .u8 0,.ws 4,.b,.b]),(3,.rows q11),(4,.rows q11)],5,1,1,1⟩ [⟨.nrm,⟨q117,q41,5,1,1,1⟩⟩] (gW n)
def c4l0(n:Nat):LP Tryz.prog Tryz.f4.ntmps:=cA (c4E n) [] 0 (sb (acM [] [3,9,11,16,22,24,30,41,44,46,47] Tryz.f4) 0) true ⟨[(2,.p 1 0),(3,.rs 21 2 0 .q none),(6,.p 3 0),(7,.i .i64)],q40,6,1,1,1⟩ [] [⟨.exit 1,⟨q116,q56,6,1,1,1⟩⟩] (de n) n
def YV(n:Nat):LP Tryz.prog Tryz.f4.ntmps:=cA (c4E n) [] 0 (sb (acM [] [3,9,11,16,22,24,30,41,44,46,47] Tryz.f4) 0) true ⟨[(2,.p 1 0),(3,.rs 21 0 0 .q none),(6,.p 2 0),(7,.i .i64)],q41,5,1,1,1⟩ [] [⟨.exit 1,⟨q117,q57,5,1,1,1⟩⟩] (cH n) n
def Y5(n:Nat):LP Tryz.prog Tryz.f4.ntmps:=gi (c4E n) [] 1041 (sb (acM [] [3,9,11,16,22,24,30,41,44,46,47] Tryz.f4) 1041) true ⟨[(2,.p 1 0),(3,.rs 21 2 0 .q none),(6,.p 3 0),(8,.i .i64),(111,.b)],q56,6,1,1,1⟩ [⟨.nrm,⟨[(2,.p 1 0),(3,.rs 21 2 0 .q none),(6,.p 3 0),(8,.i .i64)],q56,6,1,1,1⟩⟩] (iG n)
def V7(n:Nat):LP Tryz.prog Tryz.f4.ntmps:=gi (c4E n) [] 1041 (sb (acM [] [3,9,11,16,22,24,30,41,44,46,47] Tryz.f4) 1041) true ⟨[(2,.p 1 0),(3,.rs 21 0 0 .q none),(6,.p 2 0),(8,.i .i64),(111,.b)],q57,5,1,1,1⟩ [⟨.nrm,⟨[(2,.p 1 0),(3,.rs 21 0 0 .q none),(6,.p 2 0),(8,.i .i64)],q57,5,1,1,1⟩⟩] (gY n)
def Zn(n:Nat):LP Tryz.prog Tryz.f4.ntmps:=gi (c4E n) [] 1044 (sb (acM [] [3,9,11,16,22,24,30,41,44,46,47] Tryz.f4) 1044) true ⟨[(2,.p 1 0),(3,.rs 21 2 0 .q none),(6,.p 3 0),(8,.i .i64),(122,.b)],q56,6,1,1,1⟩ [⟨.nrm,q85⟩] (iD n)
def Xa(n:Nat):LP Tryz.prog Tryz.f4.ntmps:=gi (c4E n) [] 1044 (sb (acM [] [3,9,11,16,22,24,30,41,44,46,47] Tryz.f4) 1044) true ⟨[(2,.p 1 0),(3,.rs 21 0 0 .q none),(6,.p 2 0),(8,.i .i64),(122,.b)],q57,5,1,1,1⟩ [⟨.nrm,q85⟩] (hO n)
def Zc(n:Nat):LP Tryz.prog Tryz.f4.ntmps:=gi (c4E n) [] 1046 (sb (acM [] [3,9,11,16,22,24,30,41,44,46,47] Tryz.f4) 1046) true q85 [⟨.nrm,q118⟩] (fV n)
def YN(n:Nat):LP Tryz.prog Tryz.f4.ntmps:=gi (c4E n) [] 1047 (sb (acM [] [3,9,11,16,22,24,30,41,44,46,47] Tryz.f4) 1047) true q118 [⟨.nrm,⟨[(2,.p 1 0),(6,.p 2 0)],q46,5,1,1,1⟩⟩] (fS n)
def c4(n:Nat):FF Tryz.prog 4 [.ag q83] [.rows q12] 1 1 [⟨.ag q42,[(1,.rows q11)],[1],false⟩]:=funC Tryz.func4 Tryz.call4 (c4E n) [c4j3 n,altL (c4j9 n) (ZB n) rfl,altL (YX n) (WC n) rfl,altL (Zs n) (X4 n) rfl,altL (Y9 n) (V1 n) rfl,altL (c4l0 n) (YV n) rfl,altL (Y5 n) (V7 n) rfl,altL (Zn n) (Xa n) rfl,Zc n,YN n] [] [3,9,11,16,22,24,30,41,44,46,47] [0] (kU n)
def c25x(n:Nat):FF Tryz.prog 25 [.ws 0] q66 1 1 [⟨.ws 1,[(1,.rows q11)],[1],false⟩]:=funC Tryz.func25 Tryz.call25 [] [] [] [] [0] (l6 n)
def c25(n:Nat):FF Tryz.prog 25 [.ws 0] q66 1 1 [⟨.ws 1,[(1,.rows q11)],[1],false⟩]:=Wt (c25x n) (eU n) JC
def c24(n:Nat):FF Tryz.prog 24 [.ws 0] q66 1 1 [⟨.rs 21 0 0 .q (some .q),[],[],false⟩]:=funC Tryz.func24 Tryz.call24 [] [] [] [] [0] (bq n)
def c6(n:Nat):FF Tryz.prog 6 q101 q66 1 1 [⟨.ag q58,[(1,.rows q11)],[1],false⟩]:=funC Tryz.func6 Tryz.call6 [(c25 n).e,(c24 n).e] [] [] [] [0] (rZ n)
def c104(n:Nat):FF Tryz.prog 104 q106 q66 1 1 [⟨.b,[],[],false⟩]:=funC Tryz.func104 Tryz.call104 [] [] [] [] [0] (oW n)
noncomputable def Ri(_n:Nat):Ent:=VJ 65 218
theorem Mc(n:Nat):fC Tryz.prog (Ri n):=Qr Tryz.call65 (λs n hl h w=>(Tryz.strconv_Atoi s n hl h w).mono λe w' ⟨h1,t,h2⟩=>⟨h1,h2▸qN _ _ _⟩) (λs hl h w hg=>QF s hl h w hg)
def c65(n:Nat):FE Tryz.prog:=libF (Mc n)
def c66(n:Nat):PF Tryz.prog 66 [.i .i64] (.i .i64):=aM Tryz.func66 Tryz.call66 [] [] [] [] (dT n)
theorem pure_seasons_Check(n:Nat):∀a r,dT n a=some r->na Tryz.prog 66 (argP [.i .i64] a) (encP (.i .i64) r):=λa r h=>(c66 n).ok a r h
def c30(n:Nat):PF Tryz.prog 30 q80 (.tp [.i .i64,.b]):=aM Tryz.func30 Tryz.call30 [(c65 n),(c66 n).e] [] [] [] (bn n)
def c262(_n:Nat):FE Tryz.prog:=libF (OO Tryz.func262 (by kernel_rfl) (by kernel_rfl) (by kernel_rfl) (by kernel_rfl))
def c214(n:Nat):PF Tryz.prog 214 [.s,.i .u8] (.i .i64):=aM Tryz.func214 Tryz.call214 [(c262 n)] [] [] [] (dm n)
def c157(n:Nat):PF Tryz.prog 157 [.s,.i .u8] (.i .i64):=aM Tryz.func157 Tryz.call157 [(c214 n).e] [] [] [] (dE n)
def c275(n:Nat):PF Tryz.prog 275 [.i .i32] (.b):=aM Tryz.func275 Tryz.call275 [] [] [] [] (ek n)
def LI(n:Nat):List (FE Tryz.prog):=[(c157 n).e,(c275 n).e]
def Xw(n:Nat):LP Tryz.prog Tryz.f240.ntmps:=cA (LI n) [] 0 (sb (acM [] [] Tryz.f240) 0) false ⟨[(175,.p 0 0)],[(0,.iter)],1,0,0,0⟩ [] [⟨.ret,⟨q87,[],1,0,0,0⟩⟩,⟨.exit 9,⟨[],[],1,0,0,0⟩⟩] (dY n) n
def Yi(n:Nat):LP Tryz.prog Tryz.f240.ntmps:=cA (LI n) [] 2 (sb (sb (acM [] [] Tryz.f240) 1).body 2) false ⟨q108,[],128,0,0,0⟩ [] [⟨.exit 3,⟨[(8,.i .i64),(9,.i .i64)],[],128,0,0,0⟩⟩] (m9 n) n
def Vh(n:Nat):LP Tryz.prog Tryz.f240.ntmps:=cA (LI n) [] 2 (sb (sb (acM [] [] Tryz.f240) 1).body 2) false ⟨q108,[],56,0,0,0⟩ [] [⟨.exit 3,⟨[(8,.i .i64),(9,.i .i64)],[],56,0,0,0⟩⟩] (mQ n) n
def Yh(n:Nat):LP Tryz.prog Tryz.f240.ntmps:=cA (LI n) [altL (Yi n) (Vh n) rfl] 1 (sb (acM [] [] Tryz.f240) 1) false ⟨[(0,.s),(7,.s),(8,.i .i64),(9,.i .i64)],[],0,0,0,0⟩ [] [⟨.ret,⟨q87,[],0,0,0,0⟩⟩,⟨.exit 1,⟨[],[],0,0,0,0⟩⟩] (ee n) n
def c240(n:Nat):PF Tryz.prog 240 [.s,.i .i32] (.i .i64):=aM Tryz.func240 Tryz.call240 (LI n) [Xw n,Yh n,noL 3 (sb (acM [] [] Tryz.f240) 3)] [] [] (eJ n)
def c175(n:Nat):PF Tryz.prog 175 [.s,.i .i32] (.b):=aM Tryz.func175 Tryz.call175 [(c240 n).e] [] [] [] (dW n)
def c174(n:Nat):FF Tryz.prog 174 [.i .i32,.p 0 0] [.cells [.s]] 1 1 [⟨.b,[],[],false⟩]:=funC Tryz.func174 Tryz.call174 [(c175 n).e] [] [] [] [0] (km n)
def Wq(n:Nat):List (FE Tryz.prog):=[(c174 n).e]
def Xu(n:Nat):LP Tryz.prog Tryz.f239.ntmps:=cA (Wq n) [] 0 (sb (acM [] [] Tryz.f239) 0) false ⟨[(1,.fn 174 [.p 0 0]),(2,.b),(10,.p 1 0)],[(0,.cells [.s]),(1,.iter)],2,1,1,1⟩ [] [⟨.ret,⟨[(6,.i .i64)],[],2,1,1,1⟩⟩,⟨.exit 0,⟨[],[],2,1,1,1⟩⟩] (cV n) n
def c239(n:Nat):FF Tryz.prog 239 [.s,.fn 174 [.p 0 0],.b] [.cells [.s]] 1 1 [⟨.i .i64,[],[],false⟩]:=funC Tryz.func239 Tryz.call239 (Wq n) [Xu n] [] [] [0] (l9 n)
def c173(n:Nat):FF Tryz.prog 173 [.s,.fn 174 [.p 0 0]] [.cells [.s]] 1 1 [⟨.i .i64,[],[],false⟩]:=funC Tryz.func173 Tryz.call173 [(c239 n).e] [] [] [] [0] (mb n)
def c122(n:Nat):PF Tryz.prog 122 [.s,.s] (.b):=aM Tryz.func122 Tryz.call122 [(c173 n).e] [] [] [] (gM n)
def XP(n:Nat):LP Tryz.prog Tryz.f177.ntmps:=cA [] [] 0 (sb (acM [] [] Tryz.f177) 0) false ⟨[(0,.s),(1,.i .u8)],[],0,0,0,0⟩ [] [⟨.exit 0,⟨[(0,.s)],[],0,0,0,0⟩⟩] (dG n) n
def c177(n:Nat):PF Tryz.prog 177 [.s,.i .u8] (.s):=aM Tryz.func177 Tryz.call177 [] [XP n] [] [] (gz n)
def Xv(n:Nat):LP Tryz.prog Tryz.f176.ntmps:=cA [] [] 0 (sb (acM [] [] Tryz.f176) 0) false ⟨[(0,.s),(1,.i .u8)],[],0,0,0,0⟩ [] [⟨.exit 0,⟨[(0,.s)],[],0,0,0,0⟩⟩] (fG n) n
def c176(n:Nat):PF Tryz.prog 176 [.s,.i .u8] (.s):=aM Tryz.func176 Tryz.call176 [] [Xv n] [] [] (gU n)
def c123(n:Nat):PF Tryz.prog 123 [.s,.sk [48]] (.s):=aM Tryz.func123 Tryz.call123 [(c177 n).e,(c176 n).e] [] [] [] (oH n)
def c170(n:Nat):PF Tryz.prog 170 [.s,.sk [88]] (.i .i64):=aM Tryz.func170 Tryz.call170 [(c214 n).e] [noL 0 (sb (acM [] [] Tryz.f170) 0)] [] [] (jp n)
def c120(n:Nat):PF Tryz.prog 120 [.s,.sk [88]] (.i .i64):=aM Tryz.func120 Tryz.call120 [(c170 n).e] [] [] [] (nD n)
def c67(n:Nat):PF Tryz.prog 67 [.s,.sk [88]] (.b):=aM Tryz.func67 Tryz.call67 [(c120 n).e] [] [] [] (iQ n)
def c88(n:Nat):PF Tryz.prog 88 q124 (.b):=aM Tryz.func88 Tryz.call88 [(c67 n).e] [] [] [] (cP n)
noncomputable def ND(_n:Nat):Ent:=Nk 193
theorem KG(n:Nat):fC Tryz.prog (ND n):=NR Tryz.call193 λs h v hv w=>(Tryz.strconv_ParseInt_10_at64_ok s h v hv w).mono λe w' ⟨h1,h2⟩=>⟨h1,h2.elim (λh=>h▸RowKit.Below.refl _ _) (λ⟨t,h⟩=>h▸qN _ _ _)⟩
def c193(n:Nat):FE Tryz.prog:=libF (KG n)
def Ww(n:Nat):LP Tryz.prog Tryz.f190.ntmps:=cA [] [] 0 (sb (acM [] [] Tryz.f190) 0) false ⟨[(4,.i .i64),(9,.i .i64),(10,.i .i64)],[],0,0,0,0⟩ [] [⟨.exit 0,⟨q87,[],0,0,0,0⟩⟩] (lz n) n
def c190(n:Nat):PF Tryz.prog 190 [.i .i64] (.tp [.i .i64,.i .i64]):=aM Tryz.func190 Tryz.call190 [] [Ww n] [] [] (pt n)
def c254(n:Nat):PF Tryz.prog 254 [.i .i64] (.i .u64):=aM Tryz.func254 Tryz.call254 [] [] [] [] (uO n)
def c253(n:Nat):PF Tryz.prog 253 [.i .u64,.i .u64] (.tp [.i .u64,.i .u64]):=aM Tryz.func253 Tryz.call253 [] [] [] [] (lw n)
def c255(n:Nat):PF Tryz.prog 255 [.i .u64,.b] (.tp [.i .i64,.i .i64]):=aM Tryz.func255 Tryz.call255 [] [] [] [] (tG n)
def c194(n:Nat):PF Tryz.prog 194 [.i .i64,.i .i64] (.tp [.i .i64,.i .i64]):=aM Tryz.func194 Tryz.call194 [(c254 n).e,(c253 n).e,(c255 n).e] [] [] [] (wE n)
def c134(n:Nat):PF Tryz.prog 134 q124 (.tp [.i .i64,.i .i64]):=aM Tryz.func134 Tryz.call134 [(c193 n),(c190 n).e,(c194 n).e] [] [] [] (ew n)
def c124(n:Nat):PF Tryz.prog 124 q124 (.b):=aM Tryz.func124 Tryz.call124 [(c122 n).e,(c134 n).e] [] [] [] (ba n)
def c73(n:Nat):PF Tryz.prog 73 q124 (.i .i64):=aM Tryz.func73 Tryz.call73 [(c122 n).e,(c123 n).e,(c88 n).e,(c124 n).e] [] [] [] (cL n)
theorem pure_yearforms_Check(n:Nat):∀a r,cL n a.1 a.2.1 a.2.2.1 a.2.2.2.1 a.2.2.2.2=some r->na Tryz.prog 73 (argP q124 a) (encP (.i .i64) r):=λa r h=>(c73 n).ok a r h
def c91(n:Nat):PF Tryz.prog 91 q124 (.tp [.i .i64,.i .i64]):=aM Tryz.func91 Tryz.call91 [(c73 n).e,(c88 n).e,(c134 n).e] [] [] [] (eW n)
noncomputable def Af(l:List V):Option (Int):=match l with
 | [.i .i64 a0]=>some (a0)
 | _=>none
noncomputable def OR(n:Nat):Ent:=EM 171 Af (λa=>fH n a) (λr=>.tp [.i .i64 r.1,.i .i64 r.2.1,.i .i64 r.2.2])
theorem J3(n:Nat):fC Tryz.prog (OR n):=ut (arg:=λa=>[.i .i64 a]) Tryz.call171 (λl a h=>by
 unfold Af at h
 split at h
 ·cases h;rfl
 ·cases h) (λa=>rfl) (λa r h=>tX n (λx r h=>pure_seasons_Check n x r h) a r h)
def c171(n:Nat):FE Tryz.prog:=libF (J3 n)
def c195(n:Nat):PF Tryz.prog 195 [.i .i64] (.i .i64):=aM Tryz.func195 Tryz.call195 [] [] [] [] (jt n)
def c188(n:Nat):PF Tryz.prog 188 [.i .i64,.i .i64] (.i .i64):=aM Tryz.func188 Tryz.call188 [(c195 n).e] [] [] [] (kJ n)
def c274(n:Nat):PF Tryz.prog 274 [.i .i64,.i .i64] (.tp [.i .i64,.i .i64]):=aM Tryz.func274 Tryz.call274 [] [] [] [] (Hy n)
def c237(n:Nat):PF Tryz.prog 237 [.i .i64,.i .i64] (.tp [.i .i64,.i .i64]):=aM Tryz.func237 Tryz.call237 [(c274 n).e] [] [] [] (mi n)
theorem pure_ints_Div(n:Nat):∀a r,mi n a.1 a.2=some r->na Tryz.prog 237 (argP [.i .i64,.i .i64] a) (encP (.tp [.i .i64,.i .i64]) r):=λa r h=>(c237 n).ok a r h
noncomputable def AA(l:List V):Option (Int):=match l with
 | [.i .i64 a0]=>some (a0)
 | _=>none
noncomputable def Ph(n:Nat):Ent:=EM 256 AA (λa=>fM n a) (λr=>.i .i64 r)
theorem JA(n:Nat):fC Tryz.prog (Ph n):=ut (arg:=λa=>[.i .i64 a]) Tryz.call256 (λl a h=>by
 unfold AA at h
 split at h
 ·cases h;rfl
 ·cases h) (λa=>rfl) (λa r h=>uZ n (λx y r h=>pure_ints_Div n (x,y) r h) a r h)
def c256(n:Nat):FE Tryz.prog:=libF (JA n)
def c196(n:Nat):PF Tryz.prog 196 [.i .i64] (.i .i64):=aM Tryz.func196 Tryz.call196 [(c256 n)] [] [] [] (lX n)
def c137(n:Nat):PF Tryz.prog 137 [.i .i64] (.tp [.i .i64,.i .i64]):=aM Tryz.func137 Tryz.call137 [(c195 n).e,(c196 n).e] [] [] [] (mc n)
def c252(n:Nat):PF Tryz.prog 252 [.i .i64] (.tp [.b,.i .i64]):=aM Tryz.func252 Tryz.call252 [(c195 n).e,(c256 n)] [] [] [] (kG n)
theorem pure_years_Leap(n:Nat):∀a r,kG n a=some r->na Tryz.prog 252 (argP [.i .i64] a) (encP (.tp [.b,.i .i64]) r):=λa r h=>(c252 n).ok a r h
noncomputable def zV(l:List V):Option (Int×Int):=match l with
 | [.i .i64 a0,.i .i64 a1]=>some (a0,a1)
 | _=>none
noncomputable def NT(n:Nat):Ent:=EM 189 zV (λa=>eP n a.1 a.2) (λr=>.i .i64 r)
theorem JQ(n:Nat):fC Tryz.prog (NT n):=ut (arg:=λa=>[.i .i64 a.1,.i .i64 a.2]) Tryz.call189 (λl a h=>by
 unfold zV at h
 split at h
 ·cases h;rfl
 ·cases h) (λa=>rfl) (λa r h=>uI n (λx r h=>pure_years_Leap n x r h) a.1 a.2 r h)
def c189(n:Nat):FE Tryz.prog:=libF (JQ n)
def Yj(n:Nat):List (FE Tryz.prog):=[(c188 n).e,(c137 n).e,(c189 n)]
def Xk(n:Nat):LP Tryz.prog Tryz.f141.ntmps:=cA (Yj n) [] 0 (sb (acM [] [] Tryz.f141) 0) false ⟨[(0,.i .i64),(7,.i .i64),(22,.i .i64),(23,.i .i64)],[],0,0,0,0⟩ [] [⟨.exit 0,⟨[(7,.i .i64)],[],0,0,0,0⟩⟩] (bI n) n
def c141(n:Nat):PF Tryz.prog 141 [.i .i64,.i .i64] (.tp [.i .i64,.i .i64]):=aM Tryz.func141 Tryz.call141 (Yj n) [Xk n] [] [] (fJ n)
noncomputable def zL(l:List V):Option (Int×Int):=match l with
 | [.i .i64 a0,.i .i64 a1]=>some (a0,a1)
 | _=>none
noncomputable def M7(n:Nat):Ent:=EM 236 zL (λa=>sC n a.1 a.2) (λr=>.tp [.i .i64 r.1,.i .i64 r.2])
theorem JP(n:Nat):fC Tryz.prog (M7 n):=ut (arg:=λa=>[.i .i64 a.1,.i .i64 a.2]) Tryz.call236 (λl a h=>by
 unfold zL at h
 split at h
 ·cases h;rfl
 ·cases h) (λa=>rfl) (λa r h=>BG n a.1 a.2 r h)
def c236(n:Nat):FE Tryz.prog:=libF (JP n)
def c238(n:Nat):PF Tryz.prog 238 [.i .i64,.i .i64] (.tp [.i .i64,.i .i64]):=aM Tryz.func238 Tryz.call238 [] [] [] [] (wu n)
def c172(n:Nat):PF Tryz.prog 172 [.i .i64,.i .i64,.i .i64] (.tp [.i .i64,.i .i64,.i .i64]):=aM Tryz.func172 Tryz.call172 [(c188 n).e,(c236 n),(c237 n).e,(c238 n).e,(c195 n).e] [] [] [] (pm n)
def c142(n:Nat):PF Tryz.prog 142 [.i .i64,.i .i64] (.tp [.i .i64,.i .i64]):=aM Tryz.func142 Tryz.call142 [(c141 n).e,(c189 n)] [] [] [] (ib n)
def c121(n:Nat):PF Tryz.prog 121 [.i .i64,.i .i64] (.tp [.ag q67,.i .i64]):=aM Tryz.func121 Tryz.call121 [(c171 n),(c141 n).e,(c172 n).e,(c142 n).e] [] [] [] (iC n)
def c68(n:Nat):PF Tryz.prog 68 q80 (.b):=aM Tryz.func68 Tryz.call68 [(c73 n).e,(c30 n).e,(c88 n).e,(c91 n).e,(c121 n).e] [] [] [] (fR n)
def Y6(n:Nat):LP Tryz.prog Tryz.f69.ntmps:=cA [] [] 0 (sb (acM [] [] Tryz.f69) 0) false q121 [] [⟨.ret,⟨[(4,.b)],[],0,0,0,0⟩⟩,⟨.exit 0,⟨[],[],0,0,0,0⟩⟩] (dC n) n
def c69(n:Nat):PF Tryz.prog 69 q29 (.b):=aM Tryz.func69 Tryz.call69 [] [Y6 n] [] [] (dn n)
def Y4(n:Nat):LP Tryz.prog Tryz.f31.ntmps:=cA [] [] 0 (sb (acM [] [] Tryz.f31) 0) false ⟨[(3,.i .i64),(10,.ag [.s,.s]),(11,.i .i64)],[],1,0,0,0⟩ [] [⟨.exit 0,⟨[(3,.i .i64)],[],1,0,0,0⟩⟩] (ca n) n
def c31(n:Nat):PF Tryz.prog 31 q80 (.i .i64):=aM Tryz.func31 Tryz.call31 [] [Y4 n] [] [] (aV n)
def c78(n:Nat):PF Tryz.prog 78 [.i .u8] (.i .i64):=aM Tryz.func78 Tryz.call78 [] [] [] [] (dw n)
def c70E(n:Nat):List (FE Tryz.prog):=[(c78 n).e]
def Y3(n:Nat):LP Tryz.prog Tryz.f70.ntmps:=cA (c70E n) [] 0 (sb (acM [] [] Tryz.f70) 0) false ⟨[(1,.i .i64),(13,.ai .u8 3),(14,.i .i64)],[],1,0,0,0⟩ [] q109 (db n) n
def c70(n:Nat):PF Tryz.prog 70 q113 (.i .i64):=aM Tryz.func70 Tryz.call70 (c70E n) [Y3 n] [] [] (bZ n)
def c35(n:Nat):PF Tryz.prog 35 q80 (.i .i64):=aM Tryz.func35 Tryz.call35 [(c30 n).e,(c68 n).e,(c69 n).e,(c31 n).e,(c70 n).e] [] [] [] (jx n)
def c128(n:Nat):PF Tryz.prog 128 q29 (.b):=aM Tryz.func128 Tryz.call128 [] [] [] [] (kY n)
def c81E(n:Nat):List (FE Tryz.prog):=[(c128 n).e]
def ZF(n:Nat):LP Tryz.prog Tryz.f81.ntmps:=cA (c81E n) [] 0 (sb (acM [] [] Tryz.f81) 0) false ⟨[(0,.s),(5,.ws 0),(7,.i .i64),(8,.i .i64)],q78,1,0,0,0⟩ [.nilT 5 0 [.i .i64]] [⟨.exit 0,⟨[(5,.ws 0)],q78,1,0,0,0⟩⟩] (gg n) n
def c81(n:Nat):FF Tryz.prog 81 q29 [] 0 0 [⟨.ws 0,q78,[0],false⟩]:=funC Tryz.func81 Tryz.call81 (c81E n) [ZF n] [] [] [] (fE n)
def c40(n:Nat):FF Tryz.prog 40 q80 [] 0 0 [⟨.ag q35,[(0,.rows [.i .i64]),(1,.rows [.i .i64])],[0,1],false⟩]:=funC Tryz.func40 Tryz.call40 [(c30 n).e,(c81 n).e] [] [] [] [] (n9 n)
def c82(n:Nat):FF Tryz.prog 82 [.ws 0] q89 1 1 [⟨.ws 1,[(1,.rows [.i .i64])],[1],false⟩]:=funC Tryz.func82 Tryz.call82 [] [] [] [] [0] (jP n)
def Zl(n:Nat):LP Tryz.prog Tryz.f83.ntmps:=cA [] [] 0 (sb (acM [] [] Tryz.f83) 0) false ⟨[(0,.ws 0),(2,.i .i64),(3,.i .i64)],q78,1,1,0,1⟩ [] [⟨.exit 0,⟨[],q78,1,1,0,1⟩⟩] (ka n) n
def c83(n:Nat):FF Tryz.prog 83 [.ws 0] q89 0 1 [⟨.tp [],q78,[],false⟩]:=funC Tryz.func83 Tryz.call83 [] [Zl n] [] [] [0] (ja n)
def Wx(n:Nat):LP Tryz.prog Tryz.f131.ntmps:=cA [] [] 0 (sb (acM [] [] Tryz.f131) 0) false ⟨[(0,.s),(9,.p 0 0)],[(0,.iter)],1,0,0,0⟩ [] [⟨.ret,q97⟩,⟨.exit 0,⟨[(0,.s)],[],1,0,0,0⟩⟩] (iY n) n
def c131(n:Nat):PF Tryz.prog 131 [.s] (.i .i64):=aM Tryz.func131 Tryz.call131 [] [Wx n] [] [] (jh n)
def WN(n:Nat):LP Tryz.prog Tryz.f283.ntmps:=cA [] [] 0 (sb (acM [] [] Tryz.f283) 0) false ⟨[(1,.i .u8),(5,.i .i64),(9,.ws 0),(10,.i .i64),(11,.i .i64)],[(0,.rows [.i .u8])],1,0,0,0⟩ [] [⟨.exit 0,⟨[(5,.i .i64)],[],1,0,0,0⟩⟩] (io n) n
def c283(n:Nat):PF Tryz.prog 283 [.s,.i .u8] (.i .i64):=aM Tryz.func283 Tryz.call283 [] [WN n] [] [] (mM n)
def c248(n:Nat):PF Tryz.prog 248 [.s] (.tp [.i .i64,.i .i64]):=aM Tryz.func248 Tryz.call248 [(c131 n).e,(c283 n).e] [] [] [] (qC n)
def c132(n:Nat):PF Tryz.prog 132 [.i .i64] (.i .i64):=aM Tryz.func132 Tryz.call132 [(c190 n).e] [] [] [] (nV n)
def c249(n:Nat):PF Tryz.prog 249 q29 (.b):=aM Tryz.func249 Tryz.call249 [(c132 n).e] [] [] [] (mC n)
def Ye(n:Nat):LP Tryz.prog Tryz.f284.ntmps:=cA [] [] 0 (sb (acM [] [] Tryz.f284) 0) false ⟨[(1,.i .i64),(4,.p 0 0),(5,.i .i64)],[(0,.ints .u8 18)],1,0,0,0⟩ [] [⟨.exit 0,⟨[(4,.p 0 0)],[(0,.ints .u8 18)],1,0,0,0⟩⟩] (iZ n) n
def c284(n:Nat):PF Tryz.prog 284 q29 (.ai .u8 18):=aM Tryz.func284 Tryz.call284 [] [Ye n] [] [] (lS n)
def c285(n:Nat):PF Tryz.prog 285 [.s,.ai .u8 18] (.i .i64):=aM Tryz.func285 Tryz.call285 [(c283 n).e] [] [] [] (gC n)
def Qq(n:Nat):List (FE Tryz.prog):=[(c284 n).e,(c285 n).e]
def Yq(n:Nat):LP Tryz.prog Tryz.f250.ntmps:=cA (Qq n) [] 0 (sb (acM [] [] Tryz.f250) 0) false q73 [] [⟨.exit 0,q73⟩] (fW n) n
def WU(n:Nat):LP Tryz.prog Tryz.f250.ntmps:=cA (Qq n) [] 1 (sb (acM [] [] Tryz.f250) 1) false ⟨[(0,.s),(2,.b),(8,.i .u8),(9,.i .u8),(10,.p 0 0),(11,.p 1 0),(12,.i .i64)],[(0,.ints .u8 18),(1,.ints .u8 18)],74,0,0,0⟩ [] [⟨.ret,⟨[(6,.i .i64),(7,.i .i64)],[],74,0,0,0⟩⟩,⟨.exit 2,⟨[(0,.s),(2,.b),(8,.i .u8),(11,.p 1 0),(12,.i .i64)],[(1,.ints .u8 18)],74,0,0,0⟩⟩] (cJ n) n
def Wm(n:Nat):LP Tryz.prog Tryz.f250.ntmps:=cA (Qq n) [] 2 (sb (acM [] [] Tryz.f250) 2) false ⟨[(0,.s),(8,.i .u8),(11,.p 1 0),(12,.i .i64)],[(1,.ints .u8 18)],74,0,0,0⟩ [] [⟨.exit 5,⟨[(0,.s),(11,.p 1 0)],[(1,.ints .u8 18)],74,0,0,0⟩⟩] (bA n) n
def c250(n:Nat):PF Tryz.prog 250 [.s,.i .i64,.b] (.tp [.i .i64,.i .i64]):=aM Tryz.func250 Tryz.call250 (Qq n) [Yq n,WU n,Wm n] [] [] (dF n)
def c186(n:Nat):PF Tryz.prog 186 q29 (.tp [.i .i64,.i .i64]):=aM Tryz.func186 Tryz.call186 [(c131 n).e,(c248 n).e,(c249 n).e,(c250 n).e] [] [] [] (sa n)
def c251(n:Nat):PF Tryz.prog 251 [.s] (.tp [.i .i64,.i .i64]):=aM Tryz.func251 Tryz.call251 [(c131 n).e,(c283 n).e] [] [] [] (me n)
def c187(n:Nat):PF Tryz.prog 187 q29 (.tp [.i .i64,.i .i64]):=aM Tryz.func187 Tryz.call187 [(c131 n).e,(c249 n).e,(c251 n).e,(c250 n).e] [] [] [] (sA n)
def c129(n:Nat):PF Tryz.prog 129 [.s,.i .i64,.b,.i .i64] (.tp [.i .i64,.b]):=aM Tryz.func129 Tryz.call129 [(c186 n).e,(c187 n).e] [] [] [] (fQ n)
def c85(n:Nat):FF Tryz.prog 85 [.ag q35,.i .i64,.b] q100 2 2 [⟨.tp [.i .i64,.b],[],[],false⟩]:=funC Tryz.func85 Tryz.call85 [(c88 n).e,(c91 n).e,(c129 n).e] [] [] [] [0,1] (bh n)
def c84(n:Nat):FF Tryz.prog 84 [.i .i64,.i .i64,.p 0 0] [.cells [.b]] 1 1 [⟨.b,[],[],false⟩]:=funC Tryz.func84 Tryz.call84 [] [] [] [] [0] (cZ n)
def c130(n:Nat):PF Tryz.prog 130 [.i .i64,.i .i64] (.tp [.i .i64,.i .i64]):=aM Tryz.func130 Tryz.call130 [(c188 n).e,(c189 n)] [] [] [] (pH n)
def c86(n:Nat):FF Tryz.prog 86 [.ag q35,.i .i64,.i .i64] q100 2 2 [⟨.i .i64,[],[],false⟩]:=funC Tryz.func86 Tryz.call86 [(c130 n).e] [] [] [] [0,1] (dZ n)
def c41E(n:Nat):List (FE Tryz.prog):=[(c82 n).e,(c83 n).e,(c85 n).e,(c84 n).e,(c86 n).e]
def Zz(n:Nat):LP Tryz.prog Tryz.f41.ntmps:=gi (c41E n) [] 1003 (sb (acM [] [3,17,20,23,30] Tryz.f41) 1003) false ⟨[(3,.p 2 0),(4,.p 3 0),(5,.p 4 0),(6,.p 5 0),(8,.ik .i64 1),(9,.ws 0),(10,.ws 1),(25,.b)],q69,62,2,2,2⟩ [⟨.nrm,⟨[(3,.p 2 0),(4,.p 3 0),(5,.p 4 0),(6,.p 5 0),(8,.ik .i64 (-1)),(9,.ws 62),(10,.ws 63)],[(0,.rows [.i .i64]),(1,.rows [.i .i64]),(2,.cells q35),(3,.cells [.i .i64,.i .i64,.i .i64]),(4,.cells [.b]),(5,.cells [.ik .i64 0,.ik .i64 0,.ik .i64 0]),(62,.rows [.i .i64]),(63,.rows [.i .i64])],64,2,2,2⟩⟩,⟨.nrm,⟨[(3,.p 2 0),(4,.p 3 0),(5,.p 4 0),(6,.p 5 0),(8,.ik .i64 1),(9,.ws 0),(10,.ws 1)],q69,62,2,2,2⟩⟩] (jv n)
def R1(n:Nat):LP Tryz.prog Tryz.f41.ntmps:=gi (c41E n) [] 1020 (sb (sb (sb (sb (acM [] [3,17,20,23,30] Tryz.f41) 0).body 1).body 1017) 1020) false ⟨[(3,.p 2 0),(4,.p 3 0),(5,.p 4 0),(6,.p 5 0),(8,.i .i64),(9,.ws 62),(10,.ws 63),(11,.fn 84 [.p 4 0]),(12,.i .i64),(15,.i .i64),(16,.b),(53,.ws 62),(54,.i .i64),(55,.i .i64)],q18,64,2,2,2⟩ [⟨.nrm,⟨[(3,.p 2 0),(4,.p 3 0),(5,.p 4 0),(6,.p 5 0),(8,.i .i64),(9,.ws 62),(10,.ws 63),(11,.fn 84 [.p 4 0]),(12,.i .i64),(15,.i .i64),(16,.b),(53,.ws 62),(54,.i .i64),(55,.i .i64),(76,.b)],q18,64,2,2,2⟩⟩] (lD n)
def Pl(n:Nat):LP Tryz.prog Tryz.f41.ntmps:=gi (c41E n) [] 1020 (sb (sb (sb (sb (acM [] [3,17,20,23,30] Tryz.f41) 0).body 1).body 1017) 1020) false ⟨[(3,.p 2 0),(4,.p 3 0),(5,.p 4 0),(6,.p 5 0),(8,.i .i64),(9,.ws 0),(10,.ws 1),(11,.fn 84 [.p 4 0]),(12,.i .i64),(15,.i .i64),(16,.b),(53,.ws 0),(54,.i .i64),(55,.i .i64)],q20,62,2,2,2⟩ [⟨.nrm,⟨[(3,.p 2 0),(4,.p 3 0),(5,.p 4 0),(6,.p 5 0),(8,.i .i64),(9,.ws 0),(10,.ws 1),(11,.fn 84 [.p 4 0]),(12,.i .i64),(15,.i .i64),(16,.b),(53,.ws 0),(54,.i .i64),(55,.i .i64),(76,.b)],q20,62,2,2,2⟩⟩] (fB n)
def SO(n:Nat):LP Tryz.prog Tryz.f41.ntmps:=gi (c41E n) [] 1023 (sb (sb (sb (sb (acM [] [3,17,20,23,30] Tryz.f41) 0).body 1).body 1017) 1023) false q62 [⟨.nrm,q62⟩] (lM n)
def Oe(n:Nat):LP Tryz.prog Tryz.f41.ntmps:=gi (c41E n) [] 1023 (sb (sb (sb (sb (acM [] [3,17,20,23,30] Tryz.f41) 0).body 1).body 1017) 1023) false q64 [⟨.nrm,q64⟩] (fF n)
def RL(n:Nat):LP Tryz.prog Tryz.f41.ntmps:=gi (c41E n) [] 1030 (sb (sb (sb (sb (sb (acM [] [3,17,20,23,30] Tryz.f41) 0).body 1).body 1017) 2).body 1030) false ⟨[(3,.p 2 0),(4,.p 3 0),(5,.p 4 0),(6,.p 5 0),(8,.i .i64),(9,.ws 62),(10,.ws 63),(11,.fn 84 [.p 4 0]),(12,.i .i64),(15,.i .i64),(16,.b),(17,.i .i64),(19,.i .i64),(53,.ws 62),(54,.i .i64),(55,.i .i64),(94,.ws 63),(95,.i .i64),(96,.i .i64)],q18,64,2,2,2⟩ [⟨.nrm,⟨[(3,.p 2 0),(4,.p 3 0),(5,.p 4 0),(6,.p 5 0),(8,.i .i64),(9,.ws 62),(10,.ws 63),(11,.fn 84 [.p 4 0]),(12,.i .i64),(15,.i .i64),(16,.b),(17,.i .i64),(19,.i .i64),(53,.ws 62),(54,.i .i64),(55,.i .i64),(94,.ws 63),(95,.i .i64),(96,.i .i64),(119,.b)],q18,64,2,2,2⟩⟩] (lL n)
def LA(n:Nat):LP Tryz.prog Tryz.f41.ntmps:=gi (c41E n) [] 1030 (sb (sb (sb (sb (sb (acM [] [3,17,20,23,30] Tryz.f41) 0).body 1).body 1017) 2).body 1030) false ⟨[(3,.p 2 0),(4,.p 3 0),(5,.p 4 0),(6,.p 5 0),(8,.i .i64),(9,.ws 0),(10,.ws 1),(11,.fn 84 [.p 4 0]),(12,.i .i64),(15,.i .i64),(16,.b),(17,.i .i64),(19,.i .i64),(53,.ws 0),(54,.i .i64),(55,.i .i64),(94,.ws 1),(95,.i .i64),(96,.i .i64)],q20,62,2,2,2⟩ [⟨.nrm,⟨[(3,.p 2 0),(4,.p 3 0),(5,.p 4 0),(6,.p 5 0),(8,.i .i64),(9,.ws 0),(10,.ws 1),(11,.fn 84 [.p 4 0]),(12,.i .i64),(15,.i .i64),(16,.b),(17,.i .i64),(19,.i .i64),(53,.ws 0),(54,.i .i64),(55,.i .i64),(94,.ws 1),(95,.i .i64),(96,.i .i64),(119,.b)],q20,62,2,2,2⟩⟩] (iK n)
def Xe(n:Nat):LP Tryz.prog Tryz.f41.ntmps:=cA (c41E n) [altL (RL n) (LA n) rfl] 2 (sb (sb (sb (sb (acM [] [3,17,20,23,30] Tryz.f41) 0).body 1).body 1017) 2) false ⟨[(3,.p 2 0),(4,.p 3 0),(5,.p 4 0),(6,.p 5 0),(8,.i .i64),(9,.ws 62),(10,.ws 63),(11,.fn 84 [.p 4 0]),(12,.i .i64),(15,.i .i64),(16,.b),(17,.i .i64),(53,.ws 62),(54,.i .i64),(55,.i .i64),(94,.ws 63),(95,.i .i64),(96,.i .i64)],q18,64,2,2,2⟩ [] [⟨.ret,q119⟩,⟨.exit 4,q34⟩] (mP n) n
def RH(n:Nat):LP Tryz.prog Tryz.f41.ntmps:=cA (c41E n) [altL (RL n) (LA n) rfl] 2 (sb (sb (sb (sb (acM [] [3,17,20,23,30] Tryz.f41) 0).body 1).body 1017) 2) false ⟨[(3,.p 2 0),(4,.p 3 0),(5,.p 4 0),(6,.p 5 0),(8,.i .i64),(9,.ws 0),(10,.ws 1),(11,.fn 84 [.p 4 0]),(12,.i .i64),(15,.i .i64),(16,.b),(17,.i .i64),(53,.ws 0),(54,.i .i64),(55,.i .i64),(94,.ws 1),(95,.i .i64),(96,.i .i64)],q20,62,2,2,2⟩ [] [⟨.ret,q120⟩,⟨.exit 4,q36⟩] (bM n) n
def R7(n:Nat):LP Tryz.prog Tryz.f41.ntmps:=gi (c41E n) [altL (R1 n) (Pl n) rfl,altL (SO n) (Oe n) rfl,altL (Xe n) (RH n) rfl] 1017 (sb (sb (sb (acM [] [3,17,20,23,30] Tryz.f41) 0).body 1).body 1017) false q34 [⟨.nrm,q34⟩,⟨.ret,q119⟩] (lJ n)
def NK(n:Nat):LP Tryz.prog Tryz.f41.ntmps:=gi (c41E n) [altL (R1 n) (Pl n) rfl,altL (SO n) (Oe n) rfl,altL (Xe n) (RH n) rfl] 1017 (sb (sb (sb (acM [] [3,17,20,23,30] Tryz.f41) 0).body 1).body 1017) false q36 [⟨.nrm,q36⟩,⟨.ret,q120⟩] (iH n)
def XQ(n:Nat):LP Tryz.prog Tryz.f41.ntmps:=cA (c41E n) [altL (R7 n) (NK n) rfl] 1 (sb (sb (acM [] [3,17,20,23,30] Tryz.f41) 0).body 1) false q34 [] [⟨.ret,q119⟩,⟨.exit 2,⟨[(3,.p 2 0),(4,.p 3 0),(5,.p 4 0),(6,.p 5 0),(8,.i .i64),(9,.ws 62),(10,.ws 63),(11,.fn 84 [.p 4 0]),(12,.i .i64)],q18,64,2,2,2⟩⟩] (mw n) n
def Su(n:Nat):LP Tryz.prog Tryz.f41.ntmps:=cA (c41E n) [altL (R7 n) (NK n) rfl] 1 (sb (sb (acM [] [3,17,20,23,30] Tryz.f41) 0).body 1) false q36 [] [⟨.ret,q120⟩,⟨.exit 2,⟨[(3,.p 2 0),(4,.p 3 0),(5,.p 4 0),(6,.p 5 0),(8,.i .i64),(9,.ws 0),(10,.ws 1),(11,.fn 84 [.p 4 0]),(12,.i .i64)],q20,62,2,2,2⟩⟩] (cq n) n
def Zt(n:Nat):LP Tryz.prog Tryz.f41.ntmps:=cA (c41E n) [altL (XQ n) (Su n) rfl] 0 (sb (acM [] [3,17,20,23,30] Tryz.f41) 0) false ⟨[(3,.p 2 0),(4,.p 3 0),(5,.p 4 0),(6,.p 5 0),(8,.i .i64),(9,.ws 62),(10,.ws 63),(11,.fn 84 [.p 4 0]),(12,.i .i64),(13,.b)],q18,64,2,2,2⟩ [] [⟨.ret,q119⟩,⟨.exit 0,⟨[(6,.p 5 0)],q45,64,2,2,2⟩⟩] (mF n) n
def WA(n:Nat):LP Tryz.prog Tryz.f41.ntmps:=cA (c41E n) [altL (XQ n) (Su n) rfl] 0 (sb (acM [] [3,17,20,23,30] Tryz.f41) 0) false ⟨[(3,.p 2 0),(4,.p 3 0),(5,.p 4 0),(6,.p 5 0),(8,.i .i64),(9,.ws 0),(10,.ws 1),(11,.fn 84 [.p 4 0]),(12,.i .i64),(13,.b)],q20,62,2,2,2⟩ [] [⟨.ret,q120⟩,⟨.exit 0,⟨[(6,.p 5 0)],q45,62,2,2,2⟩⟩] (dj n) n
def c41(n:Nat):FF Tryz.prog 41 [.ag q35,.ag [.i .i64,.i .i64,.i .i64],.b] q100 2 2 [⟨.tp [.ag [.i .i64,.i .i64,.i .i64],.b],[],[],false⟩]:=funC Tryz.func41 Tryz.call41 (c41E n) [Zz n,altL (Zt n) (WA n) rfl] [] [3,17,20,23,30] [0,1] (jf n)
def c14(n:Nat):PF Tryz.prog 14 q80 (.i .i64):=aM Tryz.func14 Tryz.call14 [(c35 n).e,(c40 n).e,(c41 n).e] [] [] [] (bj n)
def c32(n:Nat):PF Tryz.prog 32 q80 (.b):=aM Tryz.func32 Tryz.call32 [(c67 n).e] [] [] [] (dr n)
def c90(n:Nat):PF Tryz.prog 90 q80 (.b):=aM Tryz.func90 Tryz.call90 [(c32 n).e] [] [] [] (mH n)
def c117(n:Nat):PF Tryz.prog 117 [.ag q39] (.i .i64):=aM Tryz.func117 Tryz.call117 [(c14 n).e,(c90 n).e] [] [] [] (ip n)
def c92(n:Nat):FF Tryz.prog 92 [] [] 0 0 [⟨.mp 0,[(0,.mp .u8 [(0,135),(1,136),(2,140),(3,143)])],[0],false⟩]:=funC Tryz.func92 Tryz.call92 [] [] [] [] [] (jk n)
def c93(n:Nat):PF Tryz.prog 93 q80 (.i .u8):=aM Tryz.func93 Tryz.call93 [(c30 n).e] [] [] [] (bp n)
def c135(n:Nat):FF Tryz.prog 135 [.i .i64,.ws 0] q89 1 1 [⟨.ag q67,[],[],false⟩]:=funC Tryz.func135 Tryz.call135 [(c121 n).e] [] [] [] [0] (gJ n)
def c138(n:Nat):PF Tryz.prog 138 [.i .i64] (.tp [.i .i64,.i .i64]):=aM Tryz.func138 Tryz.call138 [(c195 n).e,(c196 n).e] [] [] [] (uk n)
def c197(n:Nat):PF Tryz.prog 197 [.i .i64] (.ag [.i .i8,.i .i64]):=aM Tryz.func197 Tryz.call197 [] [] [] [] (Ft n)
def c139(n:Nat):PF Tryz.prog 139 [.i .i64,.i .i64] (.ag q67):=aM Tryz.func139 Tryz.call139 [(c197 n).e] [] [] [] (si n)
def c136(n:Nat):FF Tryz.prog 136 [.i .i64,.ws 0] q89 1 1 [⟨.ag q67,[],[],false⟩]:=funC Tryz.func136 Tryz.call136 [(c137 n).e,(c138 n).e,(c139 n).e] [] [] [] [0] (gO n)
def c140(n:Nat):FF Tryz.prog 140 [.i .i64,.ws 0] q89 1 1 [⟨.ag q67,[],[],false⟩]:=funC Tryz.func140 Tryz.call140 [(c141 n).e,(c142 n).e,(c139 n).e] [] [] [] [0] (gL n)
def c198(n:Nat):PF Tryz.prog 198 [.ag [.i .i64,.i .i64,.i .i64]] (.i .i64):=aM Tryz.func198 Tryz.call198 [(c130 n).e] [] [] [] (ru n)
def c144(n:Nat):PF Tryz.prog 144 [.ag [.i .i64,.i .i64,.i .i64]] (.tp [.i .i64,.i .i64]):=aM Tryz.func144 Tryz.call144 [(c198 n).e,(c141 n).e] [] [] [] (sB n)
def c143(n:Nat):FF Tryz.prog 143 [.i .i64,.ws 0] q89 1 1 [⟨.ag q67,[],[],false⟩]:=funC Tryz.func143 Tryz.call143 [(c144 n).e,(c139 n).e] [] [] [] [0] (gI n)
def c43(n:Nat):PF Tryz.prog 43 q80 (.tp [.ag q67,.i .i64]):=aM Tryz.func43 Tryz.call43 [(c14 n).e,(c90 n).e,(c91 n).e,(c65 n),(c92 n).e,(c93 n).e,(c135 n).e,(c136 n).e,(c140 n).e,(c143 n).e] [] [] [] (dQ n)
def c260(n:Nat):PF Tryz.prog 260 [.i .i8] (.b):=aM Tryz.func260 Tryz.call260 [] [] [] [] (oM n)
def c206(n:Nat):PF Tryz.prog 206 [.i .i8,.i .i8] (.i .i64):=aM Tryz.func206 Tryz.call206 [(c260 n).e] [] [] [] (mY n)
def c261(n:Nat):PF Tryz.prog 261 [.i .i64] (.b):=aM Tryz.func261 Tryz.call261 [] [] [] [] (lk n)
def c207(n:Nat):PF Tryz.prog 207 [.i .i64,.i .i64] (.i .i64):=aM Tryz.func207 Tryz.call207 [(c261 n).e] [] [] [] (jA n)
def YC(n:Nat):LP Tryz.prog Tryz.f205.ntmps:=cA [] [] 0 (sb (acM [] [] Tryz.f205) 0) false ⟨[(3,.i .i64),(6,.ws 0),(7,.i .i64),(8,.i .i64)],q78,1,1,1,1⟩ [] [⟨.ret,⟨[(2,.i .i64)],[],1,1,1,1⟩⟩,⟨.exit 0,⟨[(3,.i .i64)],[],1,1,1,1⟩⟩] (ub n) n
def c205(n:Nat):FF Tryz.prog 205 [.ws 0] q89 1 1 [⟨.i .i64,[],[],false⟩]:=funC Tryz.func205 Tryz.call205 [] [YC n] [] [] [0] (pL n)
def c149(n:Nat):PF Tryz.prog 149 [.ag [.i .i8,.i .i64],.ag [.i .i8,.i .i64]] (.i .i64):=aM Tryz.func149 Tryz.call149 [(c206 n).e,(c207 n).e,(c205 n).e] [] [] [] (kE n)
def c105(n:Nat):PF Tryz.prog 105 [.ag q39,.ag q39] (.i .i64):=aM Tryz.func105 Tryz.call105 [(c117 n).e,(c43 n).e,(c149 n).e] [] [0] [] (iv n)
def c208(n:Nat):FF Tryz.prog 208 [.p 0 0] [.cells q24] 1 1 [⟨.b,[],[],false⟩]:=funC Tryz.func208 Tryz.call208 [] [] [] [] [0] (rC n)
def c212(n:Nat):PF Tryz.prog 212 [.ag q31] (.b):=aM Tryz.func212 Tryz.call212 [(c32 n).e] [] [] [] (oh n)
def c213(n:Nat):PF Tryz.prog 213 [.ag q31] (.b):=aM Tryz.func213 Tryz.call213 [(c14 n).e,(c212 n).e,(c93 n).e] [] [] [] (lU n)
def c210(n:Nat):PF Tryz.prog 210 [.ag q31,.ag q31] (.b):=aM Tryz.func210 Tryz.call210 [(c213 n).e,(c93 n).e,(c43 n).e,(c149 n).e] [] [] [] (nl n)
def c209(n:Nat):FF Tryz.prog 209 [.p 0 0] [.cells q24] 1 1 [⟨.b,[],[],false⟩]:=funC Tryz.func209 Tryz.call209 [(c210 n).e] [] [] [] [0] (rq n)
def c211(n:Nat):FF Tryz.prog 211 q102 [.cells [.i .u8],.cells q24] 2 2 [⟨.b,[],[],false⟩]:=funC Tryz.func211 Tryz.call211 [(c212 n).e] [] [] [] [0,1] (rf n)
def c150(n:Nat):FF Tryz.prog 150 [.sl 0 0 3 (some (.k 3))] [.cells [.i .i64,.fn 208 [.p 1 0],.i .i64,.fn 209 [.p 1 0],.i .i64,.fn 211 [.p 2 0,.p 1 0]],.cells q24,.cells [.i .u8]] 3 3 [⟨.i .i64,[],[],false⟩]:=funC Tryz.func150 Tryz.call150 [(c208 n).e,(c209 n).e,(c211 n).e] [] [0] [] [0,1,2] (eN n)
def c151(n:Nat):PF Tryz.prog 151 [.ag q24,.i .u8] (.i .i64):=aM Tryz.func151 Tryz.call151 [(c14 n).e,(c150 n).e] [] [] [] (ge n)
def c152(n:Nat):FF Tryz.prog 152 q102 [.cells q24,.cells q59,.rows q11] 3 3 [⟨.b,[],[],false⟩]:=funC Tryz.func152 Tryz.call152 [(c151 n).e] [] [] [] [0,1,2] (qS n)
def c154(n:Nat):PF Tryz.prog 154 [.ag q24] (.b):=aM Tryz.func154 Tryz.call154 [(c213 n).e] [] [] [] (oc n)
def c153(n:Nat):FF Tryz.prog 153 [.p 0 0,.p 1 0,.p 2 0] [.cells [.i .u8,.bd,.b,.s,.i .i64,.i .i64,.s,.s,.i .u8,.i .u8,.i .u8,.i .u8,.bd,.b,.s,.i .i64,.i .i64,.s,.s,.i .u8,.i .u8,.i .u8,.i .u8,.bd,.b,.s,.i .i64,.i .i64,.s,.s,.i .u8,.i .u8,.i .u8,.rs 21 3 0 .q (some .q),.b,.b],.cells [.i .i64],.cells q24,.rows q11] 4 4 [⟨.b,[],[],false⟩]:=funC Tryz.func153 Tryz.call153 [(c154 n).e] [] [] [] [0,1,2,3] (rQ n)
def c155(n:Nat):FF Tryz.prog 155 [.p 0 0,.p 1 0,.p 2 0,.p 3 0] [.cells [.i .u8,.bd,.b,.s,.i .i64,.i .i64,.s,.s,.i .u8,.i .u8,.i .u8,.i .u8,.bd,.b,.s,.i .i64,.i .i64,.s,.s,.i .u8,.i .u8,.i .u8,.i .u8,.bd,.b,.s,.i .i64,.i .i64,.s,.s,.i .u8,.i .u8,.i .u8,.rs 21 4 0 .q (some .q),.b,.b],.cells [.i .i64],.cells [.i .i64],.cells q24,.rows q11] 5 5 [⟨.b,[],[],false⟩]:=funC Tryz.func155 Tryz.call155 [(c154 n).e] [] [] [] [0,1,2,3,4] (rO n)
def c156(n:Nat):FF Tryz.prog 156 q102 [.cells q59,.cells [.i .i64],.rows q11] 3 3 [⟨.b,[],[],false⟩]:=funC Tryz.func156 Tryz.call156 [] [] [] [] [0,1,2] (rJ n)
def XI(n:Nat):FF Tryz.prog 150 [.sl 0 0 4 (some (.k 4))] [.cells q70,.cells q24,.cells [.i .u8,.bd,.b,.s,.i .i64,.i .i64,.s,.s,.i .u8,.i .u8,.i .u8,.i .u8,.bd,.b,.s,.i .i64,.i .i64,.s,.s,.i .u8,.i .u8,.i .u8,.i .u8,.bd,.b,.s,.i .i64,.i .i64,.s,.s,.i .u8,.i .u8,.i .u8,.rs 21 5 0 .q (some .q),.b,.b],.cells [.i .i64],.cells [.i .i64],.rows q11] 6 6 [⟨.i .i64,[],[],false⟩]:=funC Tryz.func150 Tryz.call150 [(c152 n).e,(c153 n).e,(c155 n).e,(c156 n).e] [] [0] [] [0,1,2,3,4,5] (mT n)
def XU(n:Nat):List (FE Tryz.prog):=[(c151 n).e,(XI n).e]
def Wi(n:Nat):LP Tryz.prog Tryz.f106.ntmps:=cA (XU n) [] 0 (sb (acM [] [] Tryz.f106) 0) true ⟨[(1,.p 1 0),(4,.p 2 0),(13,.rs 21 0 0 .q (some .q)),(14,.i .i64),(15,.i .i64)],[(0,.rows q11),(1,.cells q15),(2,.cells [.i .i64])],3,1,1,1⟩ [] q95 (ko n) n
def c106(n:Nat):FF Tryz.prog 106 q106 q66 1 1 [⟨.tp [.i .i64,.i .i64],[],[],false⟩]:=funC Tryz.func106 Tryz.call106 (XU n) [Wi n] [] [] [0] (nj n)
def c52(n:Nat):FF Tryz.prog 52 q106 q66 1 1 [⟨.tp [.i .i64,.i .i64],[],[],false⟩]:=funC Tryz.func52 Tryz.call52 [(c104 n).e,(c14 n).e,(c105 n).e,(c106 n).e] [] [] [] [0] (gp n)
def c22(n:Nat):FF Tryz.prog 22 q106 q66 1 1 [⟨.i .i64,[],[],false⟩]:=funC Tryz.func22 Tryz.call22 [(c52 n).e] [] [] [] [0] (gn n)
def c23(n:Nat):FF Tryz.prog 23 [] [] 0 0 [⟨.mp 0,[(0,.mp .u8 [(1,53),(2,54),(3,55),(4,55)])],[0],false⟩]:=funC Tryz.func23 Tryz.call23 [] [] [] [] [] (ks n)
def Zg(n:Nat):LP Tryz.prog Tryz.f71.ntmps:=cA [] [] 0 (sb (acM [] [] Tryz.f71) 0) false q91 [] [⟨.exit 0,⟨[(3,.i .u8)],[],1,1,1,1⟩⟩] (ke n) n
def c71(n:Nat):FF Tryz.prog 71 [.sl 0 0 .q (some .q)] [.ints .u8 3] 1 1 [⟨.it 9 (.s),[],[],true⟩,⟨.i .u8,[],[],false⟩]:=funC Tryz.func71 Tryz.call71 [] [Zg n] [] [] [0] (lG n)
def Zk(n:Nat):LP Tryz.prog Tryz.f72.ntmps:=cA [] [] 0 (sb (acM [] [] Tryz.f72) 0) false q91 [] [⟨.exit 0,⟨[(3,.i .u8)],[],1,1,1,1⟩⟩] (kg n) n
def c72(n:Nat):FF Tryz.prog 72 [.sl 0 0 .q (some .q)] [.ints .u8 3] 1 1 [⟨.it 9 (.s),[],[],true⟩,⟨.i .u8,[],[],false⟩]:=funC Tryz.func72 Tryz.call72 [] [Zk n] [] [] [0] (lE n)
def c36(n:Nat):PF Tryz.prog 36 q113 (.tp [.ai .u8 3,.ai .u8 3,.i .i64]):=aM Tryz.func36 Tryz.call36 [(c70 n).e,(c71 n).e,(c72 n).e] [] [] [] (qy n)
end
end Go.Sh
