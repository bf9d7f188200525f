/- Each function of the program computes its plain function: the certificates.
   Conditions: none. Printed by the bench tool gen.py. -/
import Derived.Test.YtplhepcdmkbioaaGreatDoorShB
import Derived.Test.YtplhepcdmkbioaaGreatDoorProg
import Derived.Test.YtplhepcdmkbioaaGreatDoorAbsX
import Derived.Test.YtplhepcdmkbioaaGreatDoorAbsU
import Derived.Test.YtplhepcdmkbioaaGreatDoorAbsW
import Derived.KernelRfl
import Derived.Test.YtplhepcdmkbioaaGreatDoorAbsPat
import Derived.Test.YtplhepcdmkbioaaGreatDoorShelf
import Derived.Test.YtplhepcdmkbioaaGreatDoorHGa
import Derived.Test.YtplhepcdmkbioaaGreatDoorHGb
import Derived.Test.YtplhepcdmkbioaaGreatDoorHGe
import Derived.Test.YtplhepcdmkbioaaGreatDoorHGm
import Derived.Test.YtplhepcdmkbioaaGreatDoorHGs
set_option linter.unusedVariables false
set_option linter.unusedSimpArgs false
set_option maxRecDepth 100000
set_option maxHeartbeats 4000000
namespace Go.Sh
open Go.Abs Go.Proofs
noncomputable section
abbrev q27:List PV:=[.s,.i .i64,.i .i64]
abbrev q19:List PV:=[.b,.b,.s,.i .i64,.i .i64]
abbrev q52:List (Nat×PB):=[(0,.cells q19)]
abbrev q21:List PV:=[.s,.i .i64]
abbrev q26:List (Nat×PB):=[(0,.ints .u8 3),(1,.ints .u8 3),(2,.ints .u8 3),(3,.ints .u8 3)]
abbrev q45:PSt:=⟨[(2,.i .i64),(3,.p 0 0),(4,.p 1 0),(6,.p 2 0),(7,.p 3 0),(8,.i .u8)],q26,4,0,0,0⟩
abbrev q56:List PV:=[.ai .u8 3,.ai .u8 3,.i .i64]
abbrev q13:List (Nat×PB):=[(0,.cells [.bk false,.bk false,.sk [],.ik .i64 0,.ik .i64 0,.sk [],.sk [],.ik .u8 0,.ik .u8 0,.ik .u8 0]),(1,.ints .i64 3),(2,.cells [.sk [],.ik .i64 0,.ik .i64 0]),(3,.cells [.b,.b,.s,.i .i64,.i .i64,.s,.s,.ik .u8 0,.ik .u8 0,.ik .u8 0]),(4,.ints .i64 3),(5,.ints .u8 3),(6,.ints .u8 3),(7,.cells q27)]
abbrev q20:PSt:=⟨[(0,.s),(4,.p 0 0),(5,.p 1 0),(6,.p 2 0),(7,.p 3 0),(8,.p 4 0),(9,.p 5 0),(10,.p 6 0),(11,.p 7 0),(12,.i .i64),(13,.i .i64)],q13,8,0,0,0⟩
abbrev q41:List (Nat×PV):=[(4,.p 0 0),(5,.p 1 0),(6,.p 2 0),(7,.p 3 0),(8,.p 4 0),(9,.p 5 0),(10,.p 6 0),(11,.p 7 0),(12,.i .i64)]
abbrev q16:List PV:=[.b,.b,.s,.i .i64,.i .i64,.s,.s,.i .u8,.i .u8,.i .u8]
abbrev q58:List PV:=[.ag q19]
abbrev q49:PSt:=⟨[(2,.i .i64)],[],1,0,0,0⟩
abbrev q59:PSt:=⟨[],[],1,0,0,0⟩
abbrev q42:List PV:=[.ag q16]
abbrev q64:PSt:=⟨[(0,.s),(1,.i .i64),(5,.i .i64)],[],0,0,0,0⟩
abbrev q60:PSt:=⟨[(4,.i .i64)],[],0,0,0,0⟩
abbrev q50:PSt:=⟨[(4,.i .i64)],[],1,0,0,0⟩
abbrev q53:List PV:=[.ai .u8 3,.i .i64]
abbrev q39:List (Nat×PB):=[(0,.rows [.i .i64])]
abbrev q36:List (Nat×PB):=[(0,.cells q16),(1,.rows [.i .i64]),(2,.rows [.i .i64,.i .i64,.i .i64])]
abbrev q51:PSt:=⟨[(1,.i .i64),(2,.p 0 0),(5,.ws 2),(6,.ws 1),(7,.i .i64)],q36,3,0,0,0⟩
abbrev q57:List (Nat×PV):=[(0,.s),(7,.s),(8,.i .i64),(9,.i .i64),(12,.i .i64)]
abbrev q65:List PV:=[.ag [.i .i8,.i .i64,.i .i8,.i .i64],.i .i64]
abbrev q23:List PV:=[.b,.b,.s,.i .i64,.i .i64,.s,.s,.i .u8,.i .u8,.i .u8,.ws 0,.ws 1]
abbrev q46:List PB:=[.rows [.i .i64]]
abbrev q38:PSt:=⟨[(0,.s),(1,.i .i64),(2,.b),(8,.i .u8),(9,.i .u8),(10,.p 0 0),(11,.p 1 0),(12,.i .i64)],[(0,.ints .u8 18),(1,.ints .u8 18)],2,0,0,0⟩
abbrev q55:List PB:=[.rows [.i .i64],.rows [.i .i64]]
abbrev q34:List (Nat×PB):=[(0,.rows [.i .i64]),(1,.rows [.i .i64]),(2,.cells q23),(3,.cells [.i .i64,.i .i64,.i .i64]),(4,.cells [.b]),(5,.cells [.ik .i64 0,.ik .i64 0,.ik .i64 0])]
abbrev q12:List (Nat×PB):=[(0,.rows [.i .i64]),(1,.rows [.i .i64]),(2,.cells q23),(3,.cells [.i .i64,.i .i64,.i .i64]),(4,.cells [.b]),(5,.cells [.i .i64,.i .i64,.i .i64]),(62,.rows [.i .i64]),(63,.rows [.i .i64])]
abbrev q15:List (Nat×PB):=[(0,.rows [.i .i64]),(1,.rows [.i .i64]),(2,.cells q23),(3,.cells [.i .i64,.i .i64,.i .i64]),(4,.cells [.b]),(5,.cells [.i .i64,.i .i64,.i .i64])]
abbrev q29:PSt:=⟨[(3,.p 2 0),(4,.p 3 0),(5,.p 4 0),(6,.p 5 0),(8,.i .i64),(9,.ws 62),(10,.ws 63),(11,.fn 95 [.p 4 0]),(12,.i .i64),(15,.i .i64),(16,.b),(17,.i .i64),(53,.ws 62),(54,.i .i64),(55,.i .i64)],q12,64,2,2,2⟩
abbrev q30:PSt:=⟨[(3,.p 2 0),(4,.p 3 0),(5,.p 4 0),(6,.p 5 0),(8,.i .i64),(9,.ws 0),(10,.ws 1),(11,.fn 95 [.p 4 0]),(12,.i .i64),(15,.i .i64),(16,.b),(17,.i .i64),(53,.ws 0),(54,.i .i64),(55,.i .i64)],q15,62,2,2,2⟩
abbrev q40:List (Nat×PV):=[(6,.p 5 0),(7,.b)]
abbrev q25:List (Nat×PB):=[(5,.cells [.i .i64,.i .i64,.i .i64])]
abbrev q61:PSt:=⟨q40,q25,64,2,2,2⟩
abbrev q22:PSt:=⟨[(3,.p 2 0),(4,.p 3 0),(5,.p 4 0),(6,.p 5 0),(8,.i .i64),(9,.ws 62),(10,.ws 63),(11,.fn 95 [.p 4 0]),(12,.i .i64),(53,.ws 62),(54,.i .i64),(55,.i .i64)],q12,64,2,2,2⟩
abbrev q62:PSt:=⟨q40,q25,62,2,2,2⟩
abbrev q24:PSt:=⟨[(3,.p 2 0),(4,.p 3 0),(5,.p 4 0),(6,.p 5 0),(8,.i .i64),(9,.ws 0),(10,.ws 1),(11,.fn 95 [.p 4 0]),(12,.i .i64),(53,.ws 0),(54,.i .i64),(55,.i .i64)],q15,62,2,2,2⟩
abbrev q43:List PB:=[.cells q21]
abbrev q32:List (Nat×PB):=[(0,.cells q21)]
abbrev q54:List (Nat×PB):=[(1,.cells q21)]
abbrev q47:List PB:=[.cells [.fn 145 [.p 1 0]],.cells [.fn 1000144 [.p 3 0]],.cells q16,.cells q21]
abbrev q44:List (Nat×PB):=[(2,.cells q16),(3,.cells q21)]
abbrev q14:List PV:=[.i .u8,.b,.b,.s,.i .i64,.i .i64,.s,.s,.i .u8,.i .u8,.i .u8]
abbrev q31:List PV:=[.i .u8,.b,.i .u16,.i .u8,.i .u8,.i .u8,.i .u8,.i .u8,.i .u8,.i .u8]
abbrev q35:List PV:=[.i .u8,.i .u8,.b,.i .u16,.i .u8,.i .u8,.i .u8,.i .u8,.i .u8,.i .u8,.i .u8]
abbrev q48:PSt:=⟨[(0,.sl 0 0 .q (some .q)),(3,.i .u8),(4,.i .i64)],[(0,.ints .u8 3)],1,1,1,1⟩
def c11 (n:Nat):PF Tryz.prog 11 [.i .i64,.i .i64] (.ag [.i .i8,.i .i64,.i .i8,.i .i64]):=ar Tryz.func11 Tryz.call11 [] [] [] [] (ft n)
def c41 (n:Nat):PF Tryz.prog 41 [.i .u8] (.s):=ar Tryz.func41 Tryz.call41 [] [] [] [] (be n)
def EJ (n:Nat):List (FE Tryz.prog):=[(c41 n).e]
def F3 (n:Nat):LP Tryz.prog Tryz.f151.ntmps:=bQ (EJ n) [] 0 (sb (acM [] [] Tryz.f151) 0) false ⟨[(0,.i .u8),(3,.i .u8)],[],0,0,0,0⟩ [] [⟨.ret,⟨[(2,.i .u8)],[],0,0,0,0⟩⟩,⟨.exit 0,⟨[],[],0,0,0,0⟩⟩] (kA n) n
def c151 (n:Nat):PF Tryz.prog 151 [.i .u8] (.i .u8):=ar Tryz.func151 Tryz.call151 (EJ n) [F3 n] [] [] (gq n)
def c102 (n:Nat):PF Tryz.prog 102 [.ag q27] (.tp [.i .u8,.ag q27]):=ar Tryz.func102 Tryz.call102 [(c151 n).e] [] [] [] (cw n)
def c152 (n:Nat):PF Tryz.prog 152 [.s,.i .i64,.i .u8] (.tp [.i .i64,.i .i64]):=ar Tryz.func152 Tryz.call152 [] [] [] [] (aa n)
def Eu (n:Nat):List (FE Tryz.prog):=[(c152 n).e]
def E4 (n:Nat):LP Tryz.prog Tryz.f103.ntmps:=bQ (Eu n) [] 0 (sb (acM [] [] Tryz.f103) 0) false ⟨[(0,.s),(4,.p 0 0),(7,.p 1 0),(8,.i .i64),(9,.i .i64),(10,.i .i64)],[(0,.cells q19),(1,.cells q19)],2,0,0,0⟩ [] [⟨.ret,⟨[(4,.p 0 0),(5,.i .i64),(6,.i .i64)],q52,2,0,0,0⟩⟩,⟨.exit 0,⟨[(0,.s),(4,.p 0 0),(7,.p 1 0),(8,.i .i64),(9,.i .i64)],[(0,.cells q19),(1,.cells q19)],2,0,0,0⟩⟩] (aj n) n
def c103 (n:Nat):PF Tryz.prog 103 q21 (.tp [.ag q19,.i .i64,.i .i64]):=ar Tryz.func103 Tryz.call103 (Eu n) [E4 n] [] [] (gc n)
def EZ (n:Nat):LP Tryz.prog Tryz.f104.ntmps:=bQ [] [] 0 (sb (acM [] [] Tryz.f104) 0) false ⟨[(1,.p 0 0),(3,.p 1 0),(4,.i .i64),(5,.i .i64)],[(0,.cells q27),(1,.cells q27)],2,0,0,0⟩ [] [⟨.ret,⟨[(2,.s),(3,.p 1 0)],[(1,.cells q27)],2,0,0,0⟩⟩,⟨.exit 0,⟨[(1,.p 0 0),(3,.p 1 0),(4,.i .i64)],[(0,.cells q27),(1,.cells q27)],2,0,0,0⟩⟩] (dI n) n
def c104 (n:Nat):PF Tryz.prog 104 [.ag q27] (.tp [.s,.ag q27]):=ar Tryz.func104 Tryz.call104 [] [EZ n] [] [] (fw n)
def c153 (n:Nat):PF Tryz.prog 153 [.i .u8,.i .u8] (.i .i64):=ar Tryz.func153 Tryz.call153 [] [] [] [] (eo n)
def Bf (n:Nat):List (FE Tryz.prog):=[(c153 n).e]
def F4 (n:Nat):LP Tryz.prog Tryz.f105.ntmps:=bQ (Bf n) [] 2 (sb (sb (sb (acM [] [] Tryz.f105) 0).body 1).body 2) false ⟨[(2,.i .i64),(3,.p 0 0),(4,.p 1 0),(6,.p 2 0),(7,.p 3 0),(8,.i .u8),(9,.i .i64),(10,.i .i64),(11,.i .i64)],q26,4,0,0,0⟩ [] [⟨.exit 4,⟨[(2,.i .i64),(3,.p 0 0),(4,.p 1 0),(6,.p 2 0),(7,.p 3 0),(8,.i .u8),(9,.i .i64),(10,.i .i64)],q26,4,0,0,0⟩⟩] (aV n) n
def Fk (n:Nat):LP Tryz.prog Tryz.f105.ntmps:=bQ (Bf n) [F4 n] 1 (sb (sb (acM [] [] Tryz.f105) 0).body 1) false ⟨[(2,.i .i64),(3,.p 0 0),(4,.p 1 0),(6,.p 2 0),(7,.p 3 0),(8,.i .u8),(9,.i .i64)],q26,4,0,0,0⟩ [] [⟨.exit 2,q45⟩] (aG n) n
def ES (n:Nat):LP Tryz.prog Tryz.f105.ntmps:=bQ (Bf n) [Fk n] 0 (sb (acM [] [] Tryz.f105) 0) false q45 [] [⟨.exit 0,⟨[(6,.p 2 0),(7,.p 3 0)],[(2,.ints .u8 3),(3,.ints .u8 3)],4,0,0,0⟩⟩] (bw n) n
def c105 (n:Nat):PF Tryz.prog 105 q56 (.ai .u8 3):=ar Tryz.func105 Tryz.call105 (Bf n) [ES n] [] [] (cg n)
def c52E (n:Nat):List (FE Tryz.prog):=[(c102 n).e,(c103 n).e,(c104 n).e,(c105 n).e]
def Fa (n:Nat):LP Tryz.prog Tryz.f52.ntmps:=jA (c52E n) [] 1013 (sb (sb (sb (acM [] [12,13,21,24] Tryz.f52) 0).body 1012) 1013) false q20 [⟨.nrm,⟨[(0,.s),(4,.p 0 0),(5,.p 1 0),(6,.p 2 0),(7,.p 3 0),(8,.p 4 0),(9,.p 5 0),(10,.p 6 0),(11,.p 7 0),(12,.i .i64),(13,.i .i64),(40,.b)],q13,8,0,0,0⟩⟩] (dP n)
def EO (n:Nat):LP Tryz.prog Tryz.f52.ntmps:=jA (c52E n) [Fa n] 1012 (sb (sb (acM [] [12,13,21,24] Tryz.f52) 0).body 1012) false ⟨[(0,.s),(4,.p 0 0),(5,.p 1 0),(6,.p 2 0),(7,.p 3 0),(8,.p 4 0),(9,.p 5 0),(10,.p 6 0),(11,.p 7 0),(12,.i .i64),(13,.i .i64),(22,.b)],q13,8,0,0,0⟩ [⟨.exit 0,⟨q41,q13,8,0,0,0⟩⟩,⟨.nrm,q20⟩] (db n)
def FT (n:Nat):LP Tryz.prog Tryz.f52.ntmps:=jA (c52E n) [] 1024 (sb (sb (sb (acM [] [12,13,21,24] Tryz.f52) 0).body 1021) 1024) false ⟨[(0,.s),(4,.p 0 0),(5,.p 1 0),(6,.p 2 0),(7,.p 3 0),(8,.p 4 0),(9,.p 5 0),(10,.p 6 0),(11,.p 7 0),(12,.i .i64),(13,.i .i64),(76,.b)],q13,8,0,0,0⟩ [⟨.nrm,q20⟩] (dU n)
def FV (n:Nat):LP Tryz.prog Tryz.f52.ntmps:=jA (c52E n) [FT n] 1021 (sb (sb (acM [] [12,13,21,24] Tryz.f52) 0).body 1021) false ⟨[(0,.s),(4,.p 0 0),(5,.p 1 0),(6,.p 2 0),(7,.p 3 0),(8,.p 4 0),(9,.p 5 0),(10,.p 6 0),(11,.p 7 0),(12,.i .i64),(13,.i .i64),(56,.i .i64),(63,.b)],q13,8,0,0,0⟩ [⟨.nrm,q20⟩] (cZ n)
def Ge (n:Nat):LP Tryz.prog Tryz.f52.ntmps:=bQ (c52E n) [EO n,FV n] 0 (sb (acM [] [12,13,21,24] Tryz.f52) 0) false q20 [] [⟨.exit 0,⟨q41,[(0,.cells q16),(1,.ints .i64 3),(2,.cells q27),(3,.cells q16),(4,.ints .i64 3),(5,.ints .u8 3),(6,.ints .u8 3),(7,.cells q27)],8,0,0,0⟩⟩,⟨.ret,⟨[(4,.p 0 0),(5,.p 1 0),(6,.p 2 0)],[(0,.cells q16),(1,.ints .i64 3),(2,.cells q27)],8,0,0,0⟩⟩] (aA n) n
def c52 (n:Nat):PF Tryz.prog 52 q21 (.tp [.ag q16,.ai .i64 3,.ag q27]):=ar Tryz.func52 Tryz.call52 (c52E n) [Ge n] [] [12,13,21,24] (dJ n)
def EK (n:Nat):LP Tryz.prog Tryz.f181.ntmps:=bQ [] [] 0 (sb (acM [] [] Tryz.f181) 0) false ⟨[(0,.s),(1,.i .u8),(2,.i .u8),(7,.i .i64),(8,.i .i64)],[],0,0,0,0⟩ [] [⟨.exit 0,⟨[(7,.i .i64)],[],0,0,0,0⟩⟩] (dK n) n
def c181 (n:Nat):PF Tryz.prog 181 [.s,.i .u8,.i .u8] (.i .i64):=ar Tryz.func181 Tryz.call181 [] [EK n] [] [] (dB n)
def EP (n:Nat):LP Tryz.prog Tryz.f182.ntmps:=bQ [] [] 0 (sb (acM [] [] Tryz.f182) 0) false ⟨[(0,.s),(1,.i .i64),(6,.i .i64),(7,.i .i64)],[],0,0,0,0⟩ [] [⟨.ret,⟨[(4,.i .i64),(5,.i .i64)],[],0,0,0,0⟩⟩,⟨.exit 0,⟨[(6,.i .i64)],[],0,0,0,0⟩⟩] (cS n) n
def c182 (n:Nat):PF Tryz.prog 182 q21 (.tp [.i .i64,.i .i64]):=ar Tryz.func182 Tryz.call182 [] [EP n] [] [] (ab n)
def c131 (n:Nat):PF Tryz.prog 131 q58 (.i .i64):=ar Tryz.func131 Tryz.call131 [(c181 n).e,(c182 n).e] [] [] [] (bm n)
def c132 (n:Nat):PF Tryz.prog 132 [.i .i64] (.s):=ar Tryz.func132 Tryz.call132 [] [] [] [] (av n)
def c77E (n:Nat):List (FE Tryz.prog):=[(c132 n).e]
def Ga (n:Nat):LP Tryz.prog Tryz.f77.ntmps:=bQ (c77E n) [] 0 (sb (acM [] [] Tryz.f77) 0) false ⟨[(1,.p 0 0),(3,.i .i64)],[(0,.cells q16)],1,0,0,0⟩ [] [⟨.ret,q49⟩,⟨.exit 0,q59⟩] (aK n) n
def c77 (n:Nat):PF Tryz.prog 77 q42 (.i .i64):=ar Tryz.func77 Tryz.call77 (c77E n) [Ga n] [] [] (aC n)
def c194 (n:Nat):PF Tryz.prog 194 q58 (.i .i64):=ar Tryz.func194 Tryz.call194 [(c181 n).e] [] [] [] (ak n)
def c154 (n:Nat):PF Tryz.prog 154 q42 (.i .i64):=ar Tryz.func154 Tryz.call154 [(c131 n).e,(c77 n).e,(c194 n).e,(c182 n).e] [] [] [] (eD n)
def c195 (n:Nat):PF Tryz.prog 195 q21 (.i .i64):=ar Tryz.func195 Tryz.call195 [(c132 n).e] [] [] [] (ci n)
def FB (n:Nat):List (FE Tryz.prog):=[(c195 n).e]
def EY (n:Nat):LP Tryz.prog Tryz.f155.ntmps:=bQ (FB n) [] 0 (sb (acM [] [] Tryz.f155) 0) false q64 [] [⟨.ret,q60⟩,⟨.exit 0,⟨[],[],0,0,0,0⟩⟩] (bT n) n
def c155 (n:Nat):PF Tryz.prog 155 q21 (.i .i64):=ar Tryz.func155 Tryz.call155 (FB n) [EY n] [] [] (bR n)
def c39 (n:Nat):PF Tryz.prog 39 q42 (.i .i64):=ar Tryz.func39 Tryz.call39 [] [] [] [] (ae n)
def EI (n:Nat):LP Tryz.prog Tryz.f156.ntmps:=bQ [] [] 0 (sb (acM [] [] Tryz.f156) 0) false ⟨[(1,.i .i64),(2,.p 0 0),(5,.i .i64)],[(0,.ints .u8 3)],1,0,0,0⟩ [] [⟨.ret,q50⟩,⟨.exit 0,q59⟩] (bK n) n
def c156 (n:Nat):PF Tryz.prog 156 q53 (.i .i64):=ar Tryz.func156 Tryz.call156 [] [EI n] [] [] (aO n)
def c106 (n:Nat):PF Tryz.prog 106 q42 (.i .i64):=ar Tryz.func106 Tryz.call106 [(c154 n).e,(c77 n).e,(c155 n).e,(c39 n).e,(c156 n).e] [] [] [] (d6 n)
def c71 (n:Nat):PF Tryz.prog 71 [.s] (.tp [.ag q16,.i .i64,.i .i64]):=ar Tryz.func71 Tryz.call71 [(c52 n).e,(c106 n).e] [] [] [] (kx n)
def Dm (n:Nat):List (FE Tryz.prog):=[(c194 n).e,(c182 n).e]
def EX (n:Nat):LP Tryz.prog Tryz.f157.ntmps:=bQ (Dm n) [] 0 (sb (acM [] [] Tryz.f157) 0) false ⟨[(1,.p 0 0),(4,.s),(5,.s),(6,.i .i64)],q52,1,0,0,0⟩ [] [⟨.exit 0,⟨[(1,.p 0 0),(4,.s),(5,.s)],q52,1,0,0,0⟩⟩] (dp n) n
def E6 (n:Nat):LP Tryz.prog Tryz.f157.ntmps:=bQ (Dm n) [] 1 (sb (acM [] [] Tryz.f157) 1) false ⟨[(1,.p 0 0),(4,.s),(5,.s),(9,.i .i64)],q52,1,0,0,0⟩ [] [⟨.exit 2,⟨[(1,.p 0 0),(4,.s),(5,.s)],q52,1,0,0,0⟩⟩] (jh n) n
def c157 (n:Nat):PF Tryz.prog 157 q58 (.tp [.i .i64,.i .i64]):=ar Tryz.func157 Tryz.call157 (Dm n) [EX n,E6 n] [] [] (aq n)
def Ey (n:Nat):List (FE Tryz.prog):=[(c194 n).e,(c182 n).e]
def Fd (n:Nat):LP Tryz.prog Tryz.f158.ntmps:=bQ (Ey n) [] 0 (sb (acM [] [] Tryz.f158) 0) false ⟨[(1,.i .i64),(2,.p 0 0),(5,.i .i64)],q52,1,0,0,0⟩ [] [⟨.ret,q50⟩,⟨.exit 0,⟨[(1,.i .i64)],[],1,0,0,0⟩⟩] (aL n) n
def c158 (n:Nat):PF Tryz.prog 158 [.ag q19,.i .i64] (.i .i64):=ar Tryz.func158 Tryz.call158 (Ey n) [Fd n] [] [] (iz n)
def Ft (n:Nat):List (FE Tryz.prog):=[(c77 n).e,(c195 n).e]
def EW (n:Nat):LP Tryz.prog Tryz.f196.ntmps:=bQ (Ft n) [] 0 (sb (acM [] [] Tryz.f196) 0) false ⟨[(1,.p 0 0),(3,.ws 1),(4,.i .i64)],[(0,.cells q16),(1,.rows [.i .i64])],2,0,0,0⟩ [.nilT 3 1 [.i .i64]] [⟨.exit 0,⟨[(3,.ws 1)],[(1,.rows [.i .i64])],2,0,0,0⟩⟩] (bX n) n
def c196 (n:Nat):FF Tryz.prog 196 q42 [] 0 0 [⟨.ws 0,q39,[0],false⟩]:=funC Tryz.func196 Tryz.call196 (Ft n) [EW n] [] [] [] (eY n)
def c197 (n:Nat):PF Tryz.prog 197 [.i .i64,.i .i64] (.i .i64):=ar Tryz.func197 Tryz.call197 [] [] [] [] (gU n)
def DY (n:Nat):List (FE Tryz.prog):=[(c196 n).e,(c197 n).e,(c195 n).e]
def Ev (n:Nat):LP Tryz.prog Tryz.f159.ntmps:=bQ (DY n) [] 1 (sb (sb (acM [] [] Tryz.f159) 0).body 1) false ⟨[(1,.i .i64),(2,.p 0 0),(5,.ws 2),(6,.ws 1),(7,.i .i64),(8,.i .i64)],q36,3,0,0,0⟩ [] [⟨.exit 2,q51⟩] (cH n) n
def ET (n:Nat):LP Tryz.prog Tryz.f159.ntmps:=bQ (DY n) [Ev n] 0 (sb (acM [] [] Tryz.f159) 0) false q51 [.nilT 5 2 [.i .i64,.i .i64,.i .i64]] [⟨.exit 0,⟨[(5,.ws 2)],[(2,.rows [.i .i64,.i .i64,.i .i64])],3,0,0,0⟩⟩] (cF n) n
def c159 (n:Nat):FF Tryz.prog 159 [.ag q16,.i .i64] [] 0 0 [⟨.ws 0,[(0,.rows [.i .i64,.i .i64,.i .i64])],[0],false⟩]:=funC Tryz.func159 Tryz.call159 (DY n) [ET n] [] [] [] (gm n)
def EG (n:Nat):List (FE Tryz.prog):=[(c157 n).e,(c158 n).e,(c159 n).e]
def FH (n:Nat):LP Tryz.prog Tryz.f107.ntmps:=bQ (EG n) [] 0 (sb (acM [] [] Tryz.f107) 0) false ⟨[(1,.p 0 0),(4,.i .i64),(5,.i .i64)],[(0,.cells q16)],1,0,0,0⟩ [] [⟨.ret,q49⟩,⟨.exit 0,q59⟩] (dm n) n
def c107 (n:Nat):PF Tryz.prog 107 q42 (.i .i64):=ar Tryz.func107 Tryz.call107 (EG n) [FH n] [] [] (gk n)
def c53 (n:Nat):PF Tryz.prog 53 q42 (.i .i64):=ar Tryz.func53 Tryz.call53 [(c106 n).e,(c107 n).e] [] [] [] (d7 n)
def c30 (n:Nat):PF Tryz.prog 30 [.s] (.tp [.ag q16,.i .i64,.i .i64]):=ar Tryz.func30 Tryz.call30 [(c71 n).e,(c53 n).e,(c52 n).e] [] [] [] (kw n)
def c13 (n:Nat):PF Tryz.prog 13 [.s] (.ag q16):=ar Tryz.func13 Tryz.call13 [(c30 n).e] [] [] [] (iY n)
noncomputable def Bd (_n:Nat):Ent:=Dq 27 177
theorem yA (n:Nat):d9 Tryz.prog (Bd n):=Bk Tryz.call27 (λs n hl h w=>(Tryz.strconv_Atoi s n hl h w).mono λe w' ⟨h1,t,h2⟩=>⟨h1,h2▸kB _ _ _⟩) (λs hl h w hg=>BO s hl h w hg)
def c27 (n:Nat):FE Tryz.prog:=libF (yA n)
def c127 (n:Nat):PF Tryz.prog 127 [.i .i64] (.i .i64):=ar Tryz.func127 Tryz.call127 [] [] [] [] (cr n)
theorem pure_seasons_Check (n:Nat):∀a r,cr n a=some r->f7 Tryz.prog 127 (argP [.i .i64] a) (encP (.i .i64) r):=λa r h=>(c127 n).ok a r h
def c70 (n:Nat):PF Tryz.prog 70 q42 (.tp [.i .i64,.b]):=ar Tryz.func70 Tryz.call70 [(c27 n),(c127 n).e] [] [] [] (bn n)
def c232 (_n:Nat):FE Tryz.prog:=libF (zE Tryz.func232 (by kernel_rfl) (by kernel_rfl) (by kernel_rfl) (by kernel_rfl))
def c216 (n:Nat):PF Tryz.prog 216 [.s,.i .u8] (.i .i64):=ar Tryz.func216 Tryz.call216 [(c232 n)] [] [] [] (bD n)
def c191 (n:Nat):PF Tryz.prog 191 [.s,.i .u8] (.i .i64):=ar Tryz.func191 Tryz.call191 [(c216 n).e] [] [] [] (bL n)
def c220 (n:Nat):PF Tryz.prog 220 [.i .i32] (.b):=ar Tryz.func220 Tryz.call220 [] [] [] [] (ca n)
def zl (n:Nat):List (FE Tryz.prog):=[(c191 n).e,(c220 n).e]
def ED (n:Nat):LP Tryz.prog Tryz.f199.ntmps:=bQ (zl n) [] 0 (sb (acM [] [] Tryz.f199) 0) false ⟨[(175,.p 0 0)],[(0,.iter)],1,0,0,0⟩ [] [⟨.ret,q50⟩,⟨.exit 9,q59⟩] (bV n) n
def FL (n:Nat):LP Tryz.prog Tryz.f199.ntmps:=bQ (zl n) [] 2 (sb (sb (acM [] [] Tryz.f199) 1).body 2) false ⟨q57,[],128,0,0,0⟩ [] [⟨.exit 3,⟨[(8,.i .i64),(9,.i .i64)],[],128,0,0,0⟩⟩] (ip n) n
def Ee (n:Nat):LP Tryz.prog Tryz.f199.ntmps:=bQ (zl n) [] 2 (sb (sb (acM [] [] Tryz.f199) 1).body 2) false ⟨q57,[],56,0,0,0⟩ [] [⟨.exit 3,⟨[(8,.i .i64),(9,.i .i64)],[],56,0,0,0⟩⟩] (hO n) n
def Fq (n:Nat):LP Tryz.prog Tryz.f199.ntmps:=bQ (zl n) [altL (FL n) (Ee n) rfl] 1 (sb (acM [] [] Tryz.f199) 1) false ⟨[(0,.s),(7,.s),(8,.i .i64),(9,.i .i64)],[],0,0,0,0⟩ [] [⟨.ret,q60⟩,⟨.exit 1,⟨[],[],0,0,0,0⟩⟩] (bW n) n
def c199 (n:Nat):PF Tryz.prog 199 [.s,.i .i32] (.i .i64):=ar Tryz.func199 Tryz.call199 (zl n) [ED n,Fq n,noL 3 (sb (acM [] [] Tryz.f199) 3)] [] [] (ck n)
def c162 (n:Nat):PF Tryz.prog 162 [.s,.i .i32] (.b):=ar Tryz.func162 Tryz.call162 [(c199 n).e] [] [] [] (bU n)
def c161 (n:Nat):FF Tryz.prog 161 [.i .i32,.p 0 0] [.cells [.s]] 1 1 [⟨.b,[],[],false⟩]:=funC Tryz.func161 Tryz.call161 [(c162 n).e] [] [] [] [0] (fL n)
def EU (n:Nat):List (FE Tryz.prog):=[(c161 n).e]
def FX (n:Nat):LP Tryz.prog Tryz.f198.ntmps:=bQ (EU n) [] 0 (sb (acM [] [] Tryz.f198) 0) false ⟨[(1,.fn 161 [.p 0 0]),(2,.b),(10,.p 1 0)],[(0,.cells [.s]),(1,.iter)],2,1,1,1⟩ [] [⟨.ret,⟨[(6,.i .i64)],[],2,1,1,1⟩⟩,⟨.exit 0,⟨[],[],2,1,1,1⟩⟩] (bv n) n
def c198 (n:Nat):FF Tryz.prog 198 [.s,.fn 161 [.p 0 0],.b] [.cells [.s]] 1 1 [⟨.i .i64,[],[],false⟩]:=funC Tryz.func198 Tryz.call198 (EU n) [FX n] [] [] [0] (gG n)
def c160 (n:Nat):FF Tryz.prog 160 [.s,.fn 161 [.p 0 0]] [.cells [.s]] 1 1 [⟨.i .i64,[],[],false⟩]:=funC Tryz.func160 Tryz.call160 [(c198 n).e] [] [] [] [0] (gP n)
def c108 (n:Nat):PF Tryz.prog 108 [.s,.s] (.b):=ar Tryz.func108 Tryz.call108 [(c160 n).e] [] [] [] (dx n)
def E2 (n:Nat):LP Tryz.prog Tryz.f164.ntmps:=bQ [] [] 0 (sb (acM [] [] Tryz.f164) 0) false ⟨[(0,.s),(1,.i .u8)],[],0,0,0,0⟩ [] [⟨.exit 0,⟨[(0,.s)],[],0,0,0,0⟩⟩] (bM n) n
def c164 (n:Nat):PF Tryz.prog 164 [.s,.i .u8] (.s):=ar Tryz.func164 Tryz.call164 [] [E2 n] [] [] (dq n)
def E5 (n:Nat):LP Tryz.prog Tryz.f163.ntmps:=bQ [] [] 0 (sb (acM [] [] Tryz.f163) 0) false ⟨[(0,.s),(1,.i .u8)],[],0,0,0,0⟩ [] [⟨.exit 0,⟨[(0,.s)],[],0,0,0,0⟩⟩] (cR n) n
def c163 (n:Nat):PF Tryz.prog 163 [.s,.i .u8] (.s):=ar Tryz.func163 Tryz.call163 [] [E5 n] [] [] (dF n)
def c109 (n:Nat):PF Tryz.prog 109 [.s,.sk [48]] (.s):=ar Tryz.func109 Tryz.call109 [(c164 n).e,(c163 n).e] [] [] [] (jg n)
def c188 (n:Nat):PF Tryz.prog 188 [.s,.sk [88]] (.i .i64):=ar Tryz.func188 Tryz.call188 [(c216 n).e] [noL 0 (sb (acM [] [] Tryz.f188) 0)] [] [] (eJ n)
def c139 (n:Nat):PF Tryz.prog 139 [.s,.sk [88]] (.i .i64):=ar Tryz.func139 Tryz.call139 [(c188 n).e] [] [] [] (iD n)
def c98 (n:Nat):PF Tryz.prog 98 [.s,.sk [88]] (.b):=ar Tryz.func98 Tryz.call98 [(c139 n).e] [] [] [] (dY n)
def c55 (n:Nat):PF Tryz.prog 55 q58 (.b):=ar Tryz.func55 Tryz.call55 [(c98 n).e] [] [] [] (bH n)
noncomputable def yJ (_n:Nat):Ent:=yi 111
theorem wM (n:Nat):d9 Tryz.prog (yJ n):=ym Tryz.call111 λs h v hv w=>(Tryz.strconv_ParseInt_10_at64_ok s h v hv w).mono λe w' ⟨h1,h2⟩=>⟨h1,h2.elim (λh=>h▸RowKit.Below.refl _ _) (λ⟨t,h⟩=>h▸kB _ _ _)⟩
def c111 (n:Nat):FE Tryz.prog:=libF (wM n)
def EL (n:Nat):LP Tryz.prog Tryz.f112.ntmps:=bQ [] [] 0 (sb (acM [] [] Tryz.f112) 0) false ⟨[(4,.i .i64),(9,.i .i64),(10,.i .i64)],[],0,0,0,0⟩ [] [⟨.exit 0,q60⟩] (gx n) n
def c112 (n:Nat):PF Tryz.prog 112 [.i .i64] (.tp [.i .i64,.i .i64]):=ar Tryz.func112 Tryz.call112 [] [EL n] [] [] (jw n)
def c171 (n:Nat):PF Tryz.prog 171 [.i .i64] (.i .u64):=ar Tryz.func171 Tryz.call171 [] [] [] [] (mv n)
def c170 (n:Nat):PF Tryz.prog 170 [.i .u64,.i .u64] (.tp [.i .u64,.i .u64]):=ar Tryz.func170 Tryz.call170 [] [] [] [] (gy n)
def c172 (n:Nat):PF Tryz.prog 172 [.i .u64,.b] (.tp [.i .i64,.i .i64]):=ar Tryz.func172 Tryz.call172 [] [] [] [] (lV n)
def c113 (n:Nat):PF Tryz.prog 113 [.i .i64,.i .i64] (.tp [.i .i64,.i .i64]):=ar Tryz.func113 Tryz.call113 [(c171 n).e,(c170 n).e,(c172 n).e] [] [] [] (n9 n)
def c56 (n:Nat):PF Tryz.prog 56 q58 (.tp [.i .i64,.i .i64]):=ar Tryz.func56 Tryz.call56 [(c111 n),(c112 n).e,(c113 n).e] [] [] [] (ch n)
def c110 (n:Nat):PF Tryz.prog 110 q58 (.b):=ar Tryz.func110 Tryz.call110 [(c108 n).e,(c56 n).e] [] [] [] (ax n)
def c54 (n:Nat):PF Tryz.prog 54 q58 (.i .i64):=ar Tryz.func54 Tryz.call54 [(c108 n).e,(c109 n).e,(c55 n).e,(c110 n).e] [] [] [] (bh n)
theorem pure_yearforms_Check (n:Nat):∀a r,bh n a.1 a.2.1 a.2.2.1 a.2.2.2.1 a.2.2.2.2=some r->f7 Tryz.prog 54 (argP q58 a) (encP (.i .i64) r):=λa r h=>(c54 n).ok a r h
def c26 (n:Nat):PF Tryz.prog 26 q58 (.tp [.i .i64,.i .i64]):=ar Tryz.func26 Tryz.call26 [(c54 n).e,(c55 n).e,(c56 n).e] [] [] [] (de n)
noncomputable def qf (l:List V):Option (Int):=match l with
 | [.i .i64 a0]=>some (a0)
 | _=>none
noncomputable def zB (n:Nat):Ent:=sT 119 qf (λa=>en n a) (λr=>.tp [.i .i64 r.1,.i .i64 r.2.1,.i .i64 r.2.2])
theorem xb (n:Nat):d9 Tryz.prog (zB n):=mD (arg:=λa=>[.i .i64 a]) Tryz.call119 (λl a h=>by
 unfold qf at h
 split at h
 ·cases h;rfl
 ·cases h) (λa=>rfl) (λa r h=>lW n (λx r h=>pure_seasons_Check n x r h) a r h)
def c119 (n:Nat):FE Tryz.prog:=libF (xb n)
def c121 (n:Nat):PF Tryz.prog 121 [.i .i64] (.i .i64):=ar Tryz.func121 Tryz.call121 [] [] [] [] (eI n)
def c124 (n:Nat):PF Tryz.prog 124 [.i .i64,.i .i64] (.i .i64):=ar Tryz.func124 Tryz.call124 [(c121 n).e] [] [] [] (fU n)
def c206 (n:Nat):PF Tryz.prog 206 [.i .i64,.i .i64] (.tp [.i .i64,.i .i64]):=ar Tryz.func206 Tryz.call206 [] [] [] [] (vn n)
def c177 (n:Nat):PF Tryz.prog 177 [.i .i64,.i .i64] (.tp [.i .i64,.i .i64]):=ar Tryz.func177 Tryz.call177 [(c206 n).e] [] [] [] (gY n)
theorem pure_ints_Div (n:Nat):∀a r,gY n a.1 a.2=some r->f7 Tryz.prog 177 (argP [.i .i64,.i .i64] a) (encP (.tp [.i .i64,.i .i64]) r):=λa r h=>(c177 n).ok a r h
noncomputable def qI (l:List V):Option (Int):=match l with
 | [.i .i64 a0]=>some (a0)
 | _=>none
noncomputable def yT (n:Nat):Ent:=sT 179 qI (λa=>cU n a) (λr=>.i .i64 r)
theorem wo (n:Nat):d9 Tryz.prog (yT n):=mD (arg:=λa=>[.i .i64 a]) Tryz.call179 (λl a h=>by
 unfold qI at h
 split at h
 ·cases h;rfl
 ·cases h) (λa=>rfl) (λa r h=>nd n (λx y r h=>pure_ints_Div n (x,y) r h) a r h)
def c179 (n:Nat):FE Tryz.prog:=libF (wo n)
def c122 (n:Nat):PF Tryz.prog 122 [.i .i64] (.i .i64):=ar Tryz.func122 Tryz.call122 [(c179 n)] [] [] [] (jR n)
def c62 (n:Nat):PF Tryz.prog 62 [.i .i64] (.tp [.i .i64,.i .i64]):=ar Tryz.func62 Tryz.call62 [(c121 n).e,(c122 n).e] [] [] [] (ku n)
def c180 (n:Nat):PF Tryz.prog 180 [.i .i64] (.tp [.b,.i .i64]):=ar Tryz.func180 Tryz.call180 [(c121 n).e,(c179 n)] [] [] [] (fS n)
theorem pure_years_Leap (n:Nat):∀a r,fS n a=some r->f7 Tryz.prog 180 (argP [.i .i64] a) (encP (.tp [.b,.i .i64]) r):=λa r h=>(c180 n).ok a r h
noncomputable def qw (l:List V):Option (Int×Int):=match l with
 | [.i .i64 a0,.i .i64 a1]=>some (a0,a1)
 | _=>none
noncomputable def zh (n:Nat):Ent:=sT 125 qw (λa=>cq n a.1 a.2) (λr=>.i .i64 r)
theorem wC (n:Nat):d9 Tryz.prog (zh n):=mD (arg:=λa=>[.i .i64 a.1,.i .i64 a.2]) Tryz.call125 (λl a h=>by
 unfold qw at h
 split at h
 ·cases h;rfl
 ·cases h) (λa=>rfl) (λa r h=>l9 n (λx r h=>pure_years_Leap n x r h) a.1 a.2 r h)
def c125 (n:Nat):FE Tryz.prog:=libF (wC n)
def c66E (n:Nat):List (FE Tryz.prog):=[(c124 n).e,(c62 n).e,(c125 n)]
def GA (n:Nat):LP Tryz.prog Tryz.f66.ntmps:=bQ (c66E n) [] 0 (sb (acM [] [] Tryz.f66) 0) false ⟨[(0,.i .i64),(7,.i .i64),(22,.i .i64),(23,.i .i64)],[],0,0,0,0⟩ [] [⟨.exit 0,⟨[(7,.i .i64)],[],0,0,0,0⟩⟩] (cD n) n
def c66 (n:Nat):PF Tryz.prog 66 [.i .i64,.i .i64] (.tp [.i .i64,.i .i64]):=ar Tryz.func66 Tryz.call66 (c66E n) [GA n] [] [] (dM n)
noncomputable def qc (l:List V):Option (Int×Int):=match l with
 | [.i .i64 a0,.i .i64 a1]=>some (a0,a1)
 | _=>none
noncomputable def yF (n:Nat):Ent:=sT 176 qc (λa=>lg n a.1 a.2) (λr=>.tp [.i .i64 r.1,.i .i64 r.2])
theorem wT (n:Nat):d9 Tryz.prog (yF n):=mD (arg:=λa=>[.i .i64 a.1,.i .i64 a.2]) Tryz.call176 (λl a h=>by
 unfold qc at h
 split at h
 ·cases h;rfl
 ·cases h) (λa=>rfl) (λa r h=>rr n a.1 a.2 r h)
def c176 (n:Nat):FE Tryz.prog:=libF (wT n)
def c178 (n:Nat):PF Tryz.prog 178 [.i .i64,.i .i64] (.tp [.i .i64,.i .i64]):=ar Tryz.func178 Tryz.call178 [] [] [] [] (oe n)
def c120 (n:Nat):PF Tryz.prog 120 [.i .i64,.i .i64,.i .i64] (.tp [.i .i64,.i .i64,.i .i64]):=ar Tryz.func120 Tryz.call120 [(c124 n).e,(c176 n),(c177 n).e,(c178 n).e,(c121 n).e] [] [] [] (jB n)
def c67 (n:Nat):PF Tryz.prog 67 [.i .i64,.i .i64] (.tp [.i .i64,.i .i64]):=ar Tryz.func67 Tryz.call67 [(c66 n).e,(c125 n)] [] [] [] (eT n)
def c60 (n:Nat):PF Tryz.prog 60 [.i .i64,.i .i64] (.tp q65):=ar Tryz.func60 Tryz.call60 [(c119 n),(c66 n).e,(c120 n).e,(c67 n).e] [] [] [] (fO n)
def c79 (n:Nat):PF Tryz.prog 79 q42 (.b):=ar Tryz.func79 Tryz.call79 [(c54 n).e,(c70 n).e,(c55 n).e,(c26 n).e,(c60 n).e] [] [] [] (cW n)
def GI (n:Nat):LP Tryz.prog Tryz.f80.ntmps:=bQ [] [] 0 (sb (acM [] [] Tryz.f80) 0) false q64 [] [⟨.ret,⟨[(4,.b)],[],0,0,0,0⟩⟩,⟨.exit 0,⟨[],[],0,0,0,0⟩⟩] (bJ n) n
def c80 (n:Nat):PF Tryz.prog 80 q21 (.b):=ar Tryz.func80 Tryz.call80 [] [GI n] [] [] (bG n)
def GM (n:Nat):LP Tryz.prog Tryz.f34.ntmps:=bQ [] [] 0 (sb (acM [] [] Tryz.f34) 0) false ⟨[(3,.i .i64),(10,.ag [.s,.s]),(11,.i .i64)],[],1,0,0,0⟩ [] [⟨.exit 0,⟨[(3,.i .i64)],[],1,0,0,0⟩⟩] (aS n) n
def c34 (n:Nat):PF Tryz.prog 34 q42 (.i .i64):=ar Tryz.func34 Tryz.call34 [] [GM n] [] [] (aF n)
def c88 (n:Nat):PF Tryz.prog 88 [.i .u8] (.i .i64):=ar Tryz.func88 Tryz.call88 [] [] [] [] (dO n)
def c81E (n:Nat):List (FE Tryz.prog):=[(c88 n).e]
def Gu (n:Nat):LP Tryz.prog Tryz.f81.ntmps:=bQ (c81E n) [] 0 (sb (acM [] [] Tryz.f81) 0) false ⟨[(1,.i .i64),(13,.ai .u8 3),(14,.i .i64)],[],1,0,0,0⟩ [] [⟨.ret,q50⟩,⟨.exit 0,q59⟩] (dL n) n
def c81 (n:Nat):PF Tryz.prog 81 q53 (.i .i64):=ar Tryz.func81 Tryz.call81 (c81E n) [Gu n] [] [] (bS n)
def c33 (n:Nat):PF Tryz.prog 33 q42 (.i .i64):=ar Tryz.func33 Tryz.call33 [(c70 n).e,(c79 n).e,(c80 n).e,(c34 n).e,(c81 n).e] [] [] [] (eG n)
def c136 (n:Nat):PF Tryz.prog 136 q21 (.b):=ar Tryz.func136 Tryz.call136 [] [] [] [] (ga n)
def c92E (n:Nat):List (FE Tryz.prog):=[(c136 n).e]
def F8 (n:Nat):LP Tryz.prog Tryz.f92.ntmps:=bQ (c92E n) [] 0 (sb (acM [] [] Tryz.f92) 0) false ⟨[(0,.s),(5,.ws 0),(7,.i .i64),(8,.i .i64)],q39,1,0,0,0⟩ [.nilT 5 0 [.i .i64]] [⟨.exit 0,⟨[(5,.ws 0)],q39,1,0,0,0⟩⟩] (dk n) n
def c92 (n:Nat):FF Tryz.prog 92 q21 [] 0 0 [⟨.ws 0,q39,[0],false⟩]:=funC Tryz.func92 Tryz.call92 (c92E n) [F8 n] [] [] [] (cQ n)
def c43 (n:Nat):FF Tryz.prog 43 q42 [] 0 0 [⟨.ag q23,[(0,.rows [.i .i64]),(1,.rows [.i .i64])],[0,1],false⟩]:=funC Tryz.func43 Tryz.call43 [(c70 n).e,(c92 n).e] [] [] [] [] (kn n)
def c93 (n:Nat):FF Tryz.prog 93 [.ws 0] q46 1 1 [⟨.ws 1,[(1,.rows [.i .i64])],[1],false⟩]:=funC Tryz.func93 Tryz.call93 [] [] [] [] [0] (fc n)
def GD (n:Nat):LP Tryz.prog Tryz.f94.ntmps:=bQ [] [] 0 (sb (acM [] [] Tryz.f94) 0) false ⟨[(0,.ws 0),(2,.i .i64),(3,.i .i64)],q39,1,1,0,1⟩ [] [⟨.exit 0,⟨[],q39,1,1,0,1⟩⟩] (fA n) n
def c94 (n:Nat):FF Tryz.prog 94 [.ws 0] q46 0 1 [⟨.tp [],q39,[],false⟩]:=funC Tryz.func94 Tryz.call94 [] [GD n] [] [] [0] (eq n)
def Fl (n:Nat):LP Tryz.prog Tryz.f211.ntmps:=bQ [] [] 0 (sb (acM [] [] Tryz.f211) 0) false ⟨[(0,.s),(9,.p 0 0)],[(0,.iter)],1,0,0,0⟩ [] [⟨.ret,q49⟩,⟨.exit 0,⟨[(0,.s)],[],1,0,0,0⟩⟩] (eg n) n
def c211 (n:Nat):PF Tryz.prog 211 [.s] (.i .i64):=ar Tryz.func211 Tryz.call211 [] [Fl n] [] [] (fQ n)
def Fv (n:Nat):LP Tryz.prog Tryz.f228.ntmps:=bQ [] [] 0 (sb (acM [] [] Tryz.f228) 0) false ⟨[(1,.i .u8),(5,.i .i64),(9,.ws 0),(10,.i .i64),(11,.i .i64)],[(0,.rows [.i .u8])],1,0,0,0⟩ [] [⟨.exit 0,⟨[(5,.i .i64)],[],1,0,0,0⟩⟩] (dH n) n
def c228 (n:Nat):PF Tryz.prog 228 [.s,.i .u8] (.i .i64):=ar Tryz.func228 Tryz.call228 [] [Fv n] [] [] (hZ n)
def c212 (n:Nat):PF Tryz.prog 212 [.s] (.tp [.i .i64,.i .i64]):=ar Tryz.func212 Tryz.call212 [(c211 n).e,(c228 n).e] [] [] [] (ki n)
def c229 (n:Nat):PF Tryz.prog 229 [.i .i64] (.i .i64):=ar Tryz.func229 Tryz.call229 [(c112 n).e] [] [] [] (ka n)
def c213 (n:Nat):PF Tryz.prog 213 q21 (.b):=ar Tryz.func213 Tryz.call213 [(c229 n).e] [] [] [] (g9 n)
def Eq (n:Nat):LP Tryz.prog Tryz.f230.ntmps:=bQ [] [] 0 (sb (acM [] [] Tryz.f230) 0) false ⟨[(1,.i .i64),(4,.p 0 0),(5,.i .i64)],[(0,.ints .u8 18)],1,0,0,0⟩ [] [⟨.exit 0,⟨[(4,.p 0 0)],[(0,.ints .u8 18)],1,0,0,0⟩⟩] (ei n) n
def c230 (n:Nat):PF Tryz.prog 230 q21 (.ai .u8 18):=ar Tryz.func230 Tryz.call230 [] [Eq n] [] [] (gI n)
def c231 (n:Nat):PF Tryz.prog 231 [.s,.ai .u8 18] (.i .i64):=ar Tryz.func231 Tryz.call231 [(c228 n).e] [] [] [] (dC n)
def AT (n:Nat):List (FE Tryz.prog):=[(c230 n).e,(c231 n).e]
def fS9 (n:Nat):LP Tryz.prog Tryz.f214.ntmps:=bQ (AT n) [] 0 (sb (acM [] [] Tryz.f214) 0) false q38 [] [⟨.exit 0,q38⟩] (cY n) n
def E3 (n:Nat):LP Tryz.prog Tryz.f214.ntmps:=bQ (AT n) [] 1 (sb (acM [] [] Tryz.f214) 1) false ⟨[(0,.s),(2,.b),(8,.i .u8),(9,.i .u8),(10,.p 0 0),(11,.p 1 0),(12,.i .i64)],[(0,.ints .u8 18),(1,.ints .u8 18)],74,0,0,0⟩ [] [⟨.ret,⟨[(6,.i .i64),(7,.i .i64)],[],74,0,0,0⟩⟩,⟨.exit 2,⟨[(0,.s),(2,.b),(8,.i .u8),(11,.p 1 0),(12,.i .i64)],[(1,.ints .u8 18)],74,0,0,0⟩⟩] (bi n) n
def Ew (n:Nat):LP Tryz.prog Tryz.f214.ntmps:=bQ (AT n) [] 2 (sb (acM [] [] Tryz.f214) 2) false ⟨[(0,.s),(8,.i .u8),(11,.p 1 0),(12,.i .i64)],[(1,.ints .u8 18)],74,0,0,0⟩ [] [⟨.exit 5,⟨[(0,.s),(11,.p 1 0)],[(1,.ints .u8 18)],74,0,0,0⟩⟩] (aE n) n
def c214 (n:Nat):PF Tryz.prog 214 [.s,.i .i64,.b] (.tp [.i .i64,.i .i64]):=ar Tryz.func214 Tryz.call214 (AT n) [fS9 n,E3 n,Ew n] [] [] (bO n)
def c186 (n:Nat):PF Tryz.prog 186 q21 (.tp [.i .i64,.i .i64]):=ar Tryz.func186 Tryz.call186 [(c211 n).e,(c212 n).e,(c213 n).e,(c214 n).e] [] [] [] (ly n)
def c215 (n:Nat):PF Tryz.prog 215 [.s] (.tp [.i .i64,.i .i64]):=ar Tryz.func215 Tryz.call215 [(c211 n).e,(c228 n).e] [] [] [] (gZ n)
def c187 (n:Nat):PF Tryz.prog 187 q21 (.tp [.i .i64,.i .i64]):=ar Tryz.func187 Tryz.call187 [(c211 n).e,(c213 n).e,(c215 n).e,(c214 n).e] [] [] [] (li n)
def c137 (n:Nat):PF Tryz.prog 137 [.s,.i .i64,.b,.i .i64] (.tp [.i .i64,.b]):=ar Tryz.func137 Tryz.call137 [(c186 n).e,(c187 n).e] [] [] [] (dc n)
def c96 (n:Nat):FF Tryz.prog 96 [.ag q23,.i .i64,.b] q55 2 2 [⟨.tp [.i .i64,.b],[],[],false⟩]:=funC Tryz.func96 Tryz.call96 [(c55 n).e,(c26 n).e,(c137 n).e] [] [] [] [0,1] (aZ n)
def c95 (n:Nat):FF Tryz.prog 95 [.i .i64,.i .i64,.p 0 0] [.cells [.b]] 1 1 [⟨.b,[],[],false⟩]:=funC Tryz.func95 Tryz.call95 [] [] [] [] [0] (bz n)
def c138 (n:Nat):PF Tryz.prog 138 [.i .i64,.i .i64] (.tp [.i .i64,.i .i64]):=ar Tryz.func138 Tryz.call138 [(c124 n).e,(c125 n)] [] [] [] (jF n)
def c97 (n:Nat):FF Tryz.prog 97 [.ag q23,.i .i64,.i .i64] q55 2 2 [⟨.i .i64,[],[],false⟩]:=funC Tryz.func97 Tryz.call97 [(c138 n).e] [] [] [] [0,1] (cM n)
def c44E (n:Nat):List (FE Tryz.prog):=[(c93 n).e,(c94 n).e,(c96 n).e,(c95 n).e,(c97 n).e]
def Gm (n:Nat):LP Tryz.prog Tryz.f44.ntmps:=jA (c44E n) [] 1003 (sb (acM [] [3,17,20,23,30] Tryz.f44) 1003) false ⟨[(3,.p 2 0),(4,.p 3 0),(5,.p 4 0),(6,.p 5 0),(8,.ik .i64 1),(9,.ws 0),(10,.ws 1),(25,.b)],q34,62,2,2,2⟩ [⟨.nrm,⟨[(3,.p 2 0),(4,.p 3 0),(5,.p 4 0),(6,.p 5 0),(8,.ik .i64 (-1)),(9,.ws 62),(10,.ws 63)],[(0,.rows [.i .i64]),(1,.rows [.i .i64]),(2,.cells q23),(3,.cells [.i .i64,.i .i64,.i .i64]),(4,.cells [.b]),(5,.cells [.ik .i64 0,.ik .i64 0,.ik .i64 0]),(62,.rows [.i .i64]),(63,.rows [.i .i64])],64,2,2,2⟩⟩,⟨.nrm,⟨[(3,.p 2 0),(4,.p 3 0),(5,.p 4 0),(6,.p 5 0),(8,.ik .i64 1),(9,.ws 0),(10,.ws 1)],q34,62,2,2,2⟩⟩] (eO n)
def Ch (n:Nat):LP Tryz.prog Tryz.f44.ntmps:=jA (c44E n) [] 1020 (sb (sb (sb (sb (acM [] [3,17,20,23,30] Tryz.f44) 0).body 1).body 1017) 1020) false ⟨[(3,.p 2 0),(4,.p 3 0),(5,.p 4 0),(6,.p 5 0),(8,.i .i64),(9,.ws 62),(10,.ws 63),(11,.fn 95 [.p 4 0]),(12,.i .i64),(15,.i .i64),(16,.b),(53,.ws 62),(54,.i .i64),(55,.i .i64)],q12,64,2,2,2⟩ [⟨.nrm,⟨[(3,.p 2 0),(4,.p 3 0),(5,.p 4 0),(6,.p 5 0),(8,.i .i64),(9,.ws 62),(10,.ws 63),(11,.fn 95 [.p 4 0]),(12,.i .i64),(15,.i .i64),(16,.b),(53,.ws 62),(54,.i .i64),(55,.i .i64),(76,.b)],q12,64,2,2,2⟩⟩] (gF n)
def xO (n:Nat):LP Tryz.prog Tryz.f44.ntmps:=jA (c44E n) [] 1020 (sb (sb (sb (sb (acM [] [3,17,20,23,30] Tryz.f44) 0).body 1).body 1017) 1020) false ⟨[(3,.p 2 0),(4,.p 3 0),(5,.p 4 0),(6,.p 5 0),(8,.i .i64),(9,.ws 0),(10,.ws 1),(11,.fn 95 [.p 4 0]),(12,.i .i64),(15,.i .i64),(16,.b),(53,.ws 0),(54,.i .i64),(55,.i .i64)],q15,62,2,2,2⟩ [⟨.nrm,⟨[(3,.p 2 0),(4,.p 3 0),(5,.p 4 0),(6,.p 5 0),(8,.i .i64),(9,.ws 0),(10,.ws 1),(11,.fn 95 [.p 4 0]),(12,.i .i64),(15,.i .i64),(16,.b),(53,.ws 0),(54,.i .i64),(55,.i .i64),(76,.b)],q15,62,2,2,2⟩⟩] (cN n)
def CI (n:Nat):LP Tryz.prog Tryz.f44.ntmps:=jA (c44E n) [] 1023 (sb (sb (sb (sb (acM [] [3,17,20,23,30] Tryz.f44) 0).body 1).body 1017) 1023) false q29 [⟨.nrm,q29⟩] (gC n)
def yG (n:Nat):LP Tryz.prog Tryz.f44.ntmps:=jA (c44E n) [] 1023 (sb (sb (sb (sb (acM [] [3,17,20,23,30] Tryz.f44) 0).body 1).body 1017) 1023) false q30 [⟨.nrm,q30⟩] (cO n)
def Cm (n:Nat):LP Tryz.prog Tryz.f44.ntmps:=jA (c44E n) [] 1030 (sb (sb (sb (sb (sb (acM [] [3,17,20,23,30] Tryz.f44) 0).body 1).body 1017) 2).body 1030) false ⟨[(3,.p 2 0),(4,.p 3 0),(5,.p 4 0),(6,.p 5 0),(8,.i .i64),(9,.ws 62),(10,.ws 63),(11,.fn 95 [.p 4 0]),(12,.i .i64),(15,.i .i64),(16,.b),(17,.i .i64),(19,.i .i64),(53,.ws 62),(54,.i .i64),(55,.i .i64),(94,.ws 63),(95,.i .i64),(96,.i .i64)],q12,64,2,2,2⟩ [⟨.nrm,⟨[(3,.p 2 0),(4,.p 3 0),(5,.p 4 0),(6,.p 5 0),(8,.i .i64),(9,.ws 62),(10,.ws 63),(11,.fn 95 [.p 4 0]),(12,.i .i64),(15,.i .i64),(16,.b),(17,.i .i64),(19,.i .i64),(53,.ws 62),(54,.i .i64),(55,.i .i64),(94,.ws 63),(95,.i .i64),(96,.i .i64),(119,.b)],q12,64,2,2,2⟩⟩] (gB n)
def zX (n:Nat):LP Tryz.prog Tryz.f44.ntmps:=jA (c44E n) [] 1030 (sb (sb (sb (sb (sb (acM [] [3,17,20,23,30] Tryz.f44) 0).body 1).body 1017) 2).body 1030) false ⟨[(3,.p 2 0),(4,.p 3 0),(5,.p 4 0),(6,.p 5 0),(8,.i .i64),(9,.ws 0),(10,.ws 1),(11,.fn 95 [.p 4 0]),(12,.i .i64),(15,.i .i64),(16,.b),(17,.i .i64),(19,.i .i64),(53,.ws 0),(54,.i .i64),(55,.i .i64),(94,.ws 1),(95,.i .i64),(96,.i .i64)],q15,62,2,2,2⟩ [⟨.nrm,⟨[(3,.p 2 0),(4,.p 3 0),(5,.p 4 0),(6,.p 5 0),(8,.i .i64),(9,.ws 0),(10,.ws 1),(11,.fn 95 [.p 4 0]),(12,.i .i64),(15,.i .i64),(16,.b),(17,.i .i64),(19,.i .i64),(53,.ws 0),(54,.i .i64),(55,.i .i64),(94,.ws 1),(95,.i .i64),(96,.i .i64),(119,.b)],q15,62,2,2,2⟩⟩] (dS n)
def E0 (n:Nat):LP Tryz.prog Tryz.f44.ntmps:=bQ (c44E n) [altL (Cm n) (zX n) rfl] 2 (sb (sb (sb (sb (acM [] [3,17,20,23,30] Tryz.f44) 0).body 1).body 1017) 2) false ⟨[(3,.p 2 0),(4,.p 3 0),(5,.p 4 0),(6,.p 5 0),(8,.i .i64),(9,.ws 62),(10,.ws 63),(11,.fn 95 [.p 4 0]),(12,.i .i64),(15,.i .i64),(16,.b),(17,.i .i64),(53,.ws 62),(54,.i .i64),(55,.i .i64),(94,.ws 63),(95,.i .i64),(96,.i .i64)],q12,64,2,2,2⟩ [] [⟨.ret,q61⟩,⟨.exit 4,q22⟩] (ia n) n
def Cq (n:Nat):LP Tryz.prog Tryz.f44.ntmps:=bQ (c44E n) [altL (Cm n) (zX n) rfl] 2 (sb (sb (sb (sb (acM [] [3,17,20,23,30] Tryz.f44) 0).body 1).body 1017) 2) false ⟨[(3,.p 2 0),(4,.p 3 0),(5,.p 4 0),(6,.p 5 0),(8,.i .i64),(9,.ws 0),(10,.ws 1),(11,.fn 95 [.p 4 0]),(12,.i .i64),(15,.i .i64),(16,.b),(17,.i .i64),(53,.ws 0),(54,.i .i64),(55,.i .i64),(94,.ws 1),(95,.i .i64),(96,.i .i64)],q15,62,2,2,2⟩ [] [⟨.ret,q62⟩,⟨.exit 4,q24⟩] (aI n) n
def Cr (n:Nat):LP Tryz.prog Tryz.f44.ntmps:=jA (c44E n) [altL (Ch n) (xO n) rfl,altL (CI n) (yG n) rfl,altL (E0 n) (Cq n) rfl] 1017 (sb (sb (sb (acM [] [3,17,20,23,30] Tryz.f44) 0).body 1).body 1017) false q22 [⟨.nrm,q22⟩,⟨.ret,q61⟩] (gA n)
def zO (n:Nat):LP Tryz.prog Tryz.f44.ntmps:=jA (c44E n) [altL (Ch n) (xO n) rfl,altL (CI n) (yG n) rfl,altL (E0 n) (Cq n) rfl] 1017 (sb (sb (sb (acM [] [3,17,20,23,30] Tryz.f44) 0).body 1).body 1017) false q24 [⟨.nrm,q24⟩,⟨.ret,q62⟩] (dX n)
def EM (n:Nat):LP Tryz.prog Tryz.f44.ntmps:=bQ (c44E n) [altL (Cr n) (zO n) rfl] 1 (sb (sb (acM [] [3,17,20,23,30] Tryz.f44) 0).body 1) false q22 [] [⟨.ret,q61⟩,⟨.exit 2,⟨[(3,.p 2 0),(4,.p 3 0),(5,.p 4 0),(6,.p 5 0),(8,.i .i64),(9,.ws 62),(10,.ws 63),(11,.fn 95 [.p 4 0]),(12,.i .i64)],q12,64,2,2,2⟩⟩] (ij n) n
def CF (n:Nat):LP Tryz.prog Tryz.f44.ntmps:=bQ (c44E n) [altL (Cr n) (zO n) rfl] 1 (sb (sb (acM [] [3,17,20,23,30] Tryz.f44) 0).body 1) false q24 [] [⟨.ret,q62⟩,⟨.exit 2,⟨[(3,.p 2 0),(4,.p 3 0),(5,.p 4 0),(6,.p 5 0),(8,.i .i64),(9,.ws 0),(10,.ws 1),(11,.fn 95 [.p 4 0]),(12,.i .i64)],q15,62,2,2,2⟩⟩] (aW n) n
def GG (n:Nat):LP Tryz.prog Tryz.f44.ntmps:=bQ (c44E n) [altL (EM n) (CF n) rfl] 0 (sb (acM [] [3,17,20,23,30] Tryz.f44) 0) false ⟨[(3,.p 2 0),(4,.p 3 0),(5,.p 4 0),(6,.p 5 0),(8,.i .i64),(9,.ws 62),(10,.ws 63),(11,.fn 95 [.p 4 0]),(12,.i .i64),(13,.b)],q12,64,2,2,2⟩ [] [⟨.ret,q61⟩,⟨.exit 0,⟨[(6,.p 5 0)],q25,64,2,2,2⟩⟩] (ii n) n
def FG (n:Nat):LP Tryz.prog Tryz.f44.ntmps:=bQ (c44E n) [altL (EM n) (CF n) rfl] 0 (sb (acM [] [3,17,20,23,30] Tryz.f44) 0) false ⟨[(3,.p 2 0),(4,.p 3 0),(5,.p 4 0),(6,.p 5 0),(8,.i .i64),(9,.ws 0),(10,.ws 1),(11,.fn 95 [.p 4 0]),(12,.i .i64),(13,.b)],q15,62,2,2,2⟩ [] [⟨.ret,q62⟩,⟨.exit 0,⟨[(6,.p 5 0)],q25,62,2,2,2⟩⟩] (bB n) n
def c44 (n:Nat):FF Tryz.prog 44 [.ag q23,.ag [.i .i64,.i .i64,.i .i64],.b] q55 2 2 [⟨.tp [.ag [.i .i64,.i .i64,.i .i64],.b],[],[],false⟩]:=funC Tryz.func44 Tryz.call44 (c44E n) [Gm n,altL (GG n) (FG n) rfl] [] [3,17,20,23,30] [0,1] (ew n)
def c19 (n:Nat):PF Tryz.prog 19 q42 (.i .i64):=ar Tryz.func19 Tryz.call19 [(c33 n).e,(c43 n).e,(c44 n).e] [] [] [] (ej n)
def c45 (n:Nat):PF Tryz.prog 45 q42 (.b):=ar Tryz.func45 Tryz.call45 [(c98 n).e] [] [] [] (fH n)
def c20 (n:Nat):PF Tryz.prog 20 q42 (.b):=ar Tryz.func20 Tryz.call20 [(c45 n).e] [] [] [] (fZ n)
def c28 (n:Nat):FF Tryz.prog 28 [] [] 0 0 [⟨.mp 0,[(0,.mp .u8 [(0,59),(1,61),(2,65),(3,68)])],[0],false⟩]:=funC Tryz.func28 Tryz.call28 [] [] [] [] [] (ig n)
def c29 (n:Nat):PF Tryz.prog 29 q42 (.i .u8):=ar Tryz.func29 Tryz.call29 [(c70 n).e] [] [] [] (cV n)
def c59 (n:Nat):FF Tryz.prog 59 [.i .i64,.ws 0] q46 1 1 [⟨.ag [.i .i8,.i .i64,.i .i8,.i .i64],[],[],false⟩]:=funC Tryz.func59 Tryz.call59 [(c60 n).e] [] [] [] [0] (fp n)
def c63 (n:Nat):PF Tryz.prog 63 [.i .i64] (.tp [.i .i64,.i .i64]):=ar Tryz.func63 Tryz.call63 [(c121 n).e,(c122 n).e] [] [] [] (sU n)
def c123 (n:Nat):PF Tryz.prog 123 [.i .i64] (.ag [.i .i8,.i .i64]):=ar Tryz.func123 Tryz.call123 [] [] [] [] (uJ n)
def c64 (n:Nat):PF Tryz.prog 64 [.i .i64,.i .i64] (.ag [.i .i8,.i .i64,.i .i8,.i .i64]):=ar Tryz.func64 Tryz.call64 [(c123 n).e] [] [] [] (k7 n)
def c61 (n:Nat):FF Tryz.prog 61 [.i .i64,.ws 0] q46 1 1 [⟨.ag [.i .i8,.i .i64,.i .i8,.i .i64],[],[],false⟩]:=funC Tryz.func61 Tryz.call61 [(c62 n).e,(c63 n).e,(c64 n).e] [] [] [] [0] (fi n)
def c65 (n:Nat):FF Tryz.prog 65 [.i .i64,.ws 0] q46 1 1 [⟨.ag [.i .i8,.i .i64,.i .i8,.i .i64],[],[],false⟩]:=funC Tryz.func65 Tryz.call65 [(c66 n).e,(c67 n).e,(c64 n).e] [] [] [] [0] (fj n)
def c126 (n:Nat):PF Tryz.prog 126 [.ag [.i .i64,.i .i64,.i .i64]] (.i .i64):=ar Tryz.func126 Tryz.call126 [(c138 n).e] [] [] [] (nz n)
def c69 (n:Nat):PF Tryz.prog 69 [.ag [.i .i64,.i .i64,.i .i64]] (.tp [.i .i64,.i .i64]):=ar Tryz.func69 Tryz.call69 [(c126 n).e,(c66 n).e] [] [] [] (qz n)
def c68 (n:Nat):FF Tryz.prog 68 [.i .i64,.ws 0] q46 1 1 [⟨.ag [.i .i8,.i .i64,.i .i8,.i .i64],[],[],false⟩]:=funC Tryz.func68 Tryz.call68 [(c69 n).e,(c64 n).e] [] [] [] [0] (fg n)
def c12 (n:Nat):PF Tryz.prog 12 q42 (.tp q65):=ar Tryz.func12 Tryz.call12 [(c19 n).e,(c20 n).e,(c26 n).e,(c27 n),(c28 n).e,(c29 n).e,(c59 n).e,(c61 n).e,(c65 n).e,(c68 n).e] [] [] [] (gK n)
def c47 (n:Nat):FF Tryz.prog 47 [.p 0 0] q43 1 1 [⟨.i .i64,[],[],false⟩]:=funC Tryz.func47 Tryz.call47 [] [] [] [] [0] (aM n)
def c100 (n:Nat):FF Tryz.prog 100 [.p 0 0] q43 1 1 [⟨.s,[],[],false⟩]:=funC Tryz.func100 Tryz.call100 [] [] [] [] [0] (da n)
def c189 (n:Nat):PF Tryz.prog 189 [.s,.s] (.b):=ar Tryz.func189 Tryz.call189 [] [] [] [] (dw n)
def c140 (n:Nat):PF Tryz.prog 140 [.s,.s] (.b):=ar Tryz.func140 Tryz.call140 [(c189 n).e] [] [] [] (eQ n)
def c99 (n:Nat):FF Tryz.prog 99 [.p 0 0,.s] q43 1 1 [⟨.b,[],[],false⟩]:=funC Tryz.func99 Tryz.call99 [(c100 n).e,(c140 n).e] [] [] [] [0] (eS n)
def c48 (n:Nat):FF Tryz.prog 48 [.p 0 0,.s] q43 0 1 [⟨.b,q32,[],false⟩]:=funC Tryz.func48 Tryz.call48 [(c99 n).e] [] [] [] [0] (aH n)
def c49 (n:Nat):FF Tryz.prog 49 [.p 0 0] q43 1 1 [⟨.tp [.i .u8,.b],[],[],false⟩]:=funC Tryz.func49 Tryz.call49 [(c100 n).e] [] [] [] [0] (bg n)
def c89 (n:Nat):PF Tryz.prog 89 [] (.ag [.s,.s,.s,.s]):=ar Tryz.func89 Tryz.call89 [] [] [] [] (lU n)
def FJ (n:Nat):LP Tryz.prog Tryz.f190.ntmps:=bQ [] [] 0 (sb (acM [] [] Tryz.f190) 0) false ⟨[(0,.sl 0 0 4 (some (.k 4))),(1,.s),(7,.i .i64),(8,.i .i64)],[(0,.cells [.s,.s,.s,.s])],1,1,1,1⟩ [] [⟨.ret,⟨[(4,.i .i64)],[],1,1,1,1⟩⟩,⟨.exit 0,⟨[],[],1,1,1,1⟩⟩] (ea n) n
def c190 (n:Nat):FF Tryz.prog 190 [.sl 0 0 4 (some (.k 4)),.s] [.cells [.s,.s,.s,.s]] 1 1 [⟨.i .i64,[],[],false⟩]:=funC Tryz.func190 Tryz.call190 [] [FJ n] [] [] [0] (fa n)
def c142 (n:Nat):PF Tryz.prog 142 [.i .u8] (.tp [.i .u8,.b]):=ar Tryz.func142 Tryz.call142 [(c89 n).e,(c190 n).e] [] [] [] (jS n)
def c51 (n:Nat):FF Tryz.prog 51 [.p 0 0,.i .i64,.i .i64] q43 1 1 [⟨.it 113 (.ag [.i .i64,.i .i64]),[],[],true⟩]:=funC Tryz.func51 Tryz.call51 [] [] [] [] [0] (bf n)
def c143 (n:Nat):FF Tryz.prog 143 [.p 0 0,.s] q43 0 1 [⟨.it 113 (.ag [.i .i64,.i .i64]),q32,[],true⟩,⟨.i .u8,q32,[],false⟩]:=funC Tryz.func143 Tryz.call143 [(c49 n).e,(c47 n).e,(c51 n).e,(c191 n).e] [] [] [] [0] (bA n)
def c141 (n:Nat):FF Tryz.prog 141 [.p 0 0] [.cells [.p 1 0],.cells q21] 1 2 [⟨.it 113 (.ag [.i .i64,.i .i64]),q54,[],true⟩,⟨.i .u8,q54,[],false⟩]:=funC Tryz.func141 Tryz.call141 [(c49 n).e,(c142 n).e,(c143 n).e] [] [] [] [0,1] (bj n)
def Eo (n:Nat):List (FE Tryz.prog):=[(c47 n).e,(c49 n).e,(c191 n).e,(c51 n).e]
def E7 (n:Nat):LP Tryz.prog Tryz.f144.ntmps:=bQ (Eo n) [] 0 (sb (acM [] [] Tryz.f144) 0) false ⟨[(0,.p 0 0),(1,.s),(2,.i .i64),(3,.i .i64),(9,.i .i64),(10,.i .u8),(11,.b)],q32,1,1,0,1⟩ [] [⟨.exit 0,⟨[(0,.p 0 0),(2,.i .i64),(9,.i .i64)],q32,1,1,0,1⟩⟩] (bC n) n
def c144 (n:Nat):FF Tryz.prog 144 [.p 0 0,.s,.i .i64,.i .i64] q43 0 1 [⟨.it 113 (.ag [.i .i64,.i .i64]),q32,[],true⟩,⟨.s,q32,[],false⟩]:=funC Tryz.func144 Tryz.call144 (Eo n) [E7 n] [] [] [0] (aT n)
def c192 (n:Nat):FF Tryz.prog 192 [.s,.p 0 0] [.cells [.p 1 0],.cells q21] 1 2 [⟨.i .i64,q54,[],false⟩,⟨.it 113 (.ag [.i .i64,.i .i64]),q54,[],true⟩]:=funC Tryz.func192 Tryz.call192 [(c48 n).e,(c143 n).e,(c144 n).e,(c27 n)] [] [] [] [0,1] (bF n)
def c147 (n:Nat):FF Tryz.prog 147 [.p 0 0] q43 0 1 [⟨.it 113 (.ag [.i .i64,.i .i64]),q32,[],true⟩,⟨.ag q19,q32,[],false⟩]:=funC Tryz.func147 Tryz.call147 [(c48 n).e,(c143 n).e,(c144 n).e,(c192 n).e] [] [] [] [0] (gX n)
def c146 (n:Nat):FF Tryz.prog 146 [.p 0 0,.p 1 0] [.cells [.p 2 0],.cells q16,.cells q21] 1 3 [⟨.it 113 (.ag [.i .i64,.i .i64]),[(1,.cells q16),(2,.cells q21)],[],true⟩,⟨.tp [],[(1,.cells q16),(2,.cells q21)],[],false⟩]:=funC Tryz.func146 Tryz.call146 [(c147 n).e] [] [] [] [0,1,2] (fI n)
def c193 (n:Nat):FF Tryz.prog 193 [.i .i64,.p 2 0,.p 0 0,.p 1 0] [.ints .u8 3,.ints .u8 3,.cells [.i .u8]] 2 3 [⟨.i .u8,[(2,.cells [.i .u8])],[],false⟩]:=funC Tryz.func193 Tryz.call193 [] [] [] [] [2,0,1] (lE n)
def Fw (n:Nat):List (FE Tryz.prog):=[(c81 n).e,(c193 n).e]
def EQ (n:Nat):LP Tryz.prog Tryz.f150.ntmps:=bQ (Fw n) [] 1 (sb (acM [0] [] Tryz.f150) 1) false ⟨[(6,.p 2 0),(12,.fn 193 [.p 5 0,.p 1 0,.p 0 0]),(13,.p 6 0),(14,.i .i64)],[(0,.ints .u8 3),(1,.ints .u8 3),(2,.ints .u8 3),(5,.cells [.i .u8]),(6,.ints .u8 3)],7,0,0,0⟩ [] [⟨.exit 2,⟨[(6,.p 2 0),(13,.p 6 0)],[(2,.ints .u8 3),(6,.ints .u8 3)],7,0,0,0⟩⟩] (kM n) n
def c150 (n:Nat):PF Tryz.prog 150 q56 (.tp q53):=ar Tryz.func150 Tryz.call150 (Fw n) [EQ n] [0] [] (cu n)
def c145 (n:Nat):FF Tryz.prog 145 [.p 0 0] [.cells [.fn 1000144 [.p 1 0]],.cells q21] 1 2 [⟨.it 113 (.ag [.i .i64,.i .i64]),q54,[],true⟩,⟨.s,q54,[],false⟩]:=funC Tryz.func145 Tryz.call145 [(c144 n).e] [] [] [] [0,1] (ec n)
def c148 (n:Nat):FF Tryz.prog 148 [.p 0 0,.p 2 0] q47 2 4 [⟨.it 113 (.ag [.i .i64,.i .i64]),q44,[],true⟩,⟨.tp [],q44,[],false⟩]:=funC Tryz.func148 Tryz.call148 [(c145 n).e] [] [] [] [0,2,1,3] (fN n)
def c149 (n:Nat):FF Tryz.prog 149 [.p 0 0,.p 2 0] q47 2 4 [⟨.it 113 (.ag [.i .i64,.i .i64]),q44,[],true⟩,⟨.tp [],q44,[],false⟩]:=funC Tryz.func149 Tryz.call149 [(c145 n).e] [] [] [] [0,2,1,3] (fF n)
def c101 (n:Nat):FF Tryz.prog 101 [.p 0 0] q43 0 1 [⟨.it 113 (.ag [.i .i64,.i .i64]),q32,[],true⟩,⟨.tp [.ag q16,.ai .i64 3],q32,[],false⟩]:=funC Tryz.func101 Tryz.call101 [(c141 n).e,(c47 n).e,(c146 n).e,(c150 n).e,(c48 n).e,(c148 n).e,(c149 n).e] [] [0] [] [0] (fC n)
def c50 (n:Nat):FF Tryz.prog 50 [.p 0 0] q43 0 1 [⟨.it 113 (.ag [.i .i64,.i .i64]),q32,[],true⟩,⟨.tp [.ag q16,.i .i64],q32,[],false⟩]:=funC Tryz.func50 Tryz.call50 [(c101 n).e,(c19 n).e,(c51 n).e] [] [] [] [0] (iv n)
def c23 (n:Nat):FF Tryz.prog 23 [.p 0 0] q43 0 1 [⟨.tp [.ag q14,.i .i64],q32,[],false⟩,⟨.it 113 (.ag [.i .i64,.i .i64]),q32,[],true⟩]:=funC Tryz.func23 Tryz.call23 [(c47 n).e,(c48 n).e,(c49 n).e,(c50 n).e,(c20 n).e,(c51 n).e] [] [] [] [0] (kr n)
def c22 (n:Nat):FF Tryz.prog 22 [.p 0 0,.p 1 0] [.cells q21,.cells q14] 0 2 [⟨.tp [],[(0,.cells q21),(1,.cells q14)],[],false⟩,⟨.it 113 (.ag [.i .i64,.i .i64]),[(0,.cells q21),(1,.cells q14)],[],true⟩]:=funC Tryz.func22 Tryz.call22 [(c23 n).e] [] [] [] [0,1] (jk n)
def c21 (n:Nat):FF Tryz.prog 21 [.s,.fn 22 [.p 0 0]] [.cells q14] 0 1 [⟨.tp [.i .i64,.i .i64],[(0,.cells q14)],[],false⟩]:=funD ⟨(acM [] [] Tryz.f21),2,3,0,9,46,5⟩ Tryz.func21 Tryz.call21 Tryz.func46 Tryz.call46 [(c22 n).e] [] [] [] [0] (dj n) (by kernel_rfl) (by kernel_rfl) (by kernel_rfl) (by kernel_rfl)
def c9 (n:Nat):PF Tryz.prog 9 [.s] (.tp [.ag q14,.i .i64,.i .i64]):=ar Tryz.func9 Tryz.call9 [(c21 n).e] [] [] [] (fV n)
def c15 (n:Nat):PF Tryz.prog 15 [.s] (.ag q14):=ar Tryz.func15 Tryz.call15 [(c13 n).e] [] [] [] (dZ n)
def c8 (n:Nat):PF Tryz.prog 8 [.ag q14] (.i .i64):=ar Tryz.func8 Tryz.call8 [(c19 n).e,(c20 n).e] [] [] [] (du n)
def c128 (n:Nat):PF Tryz.prog 128 [.i .i8] (.b):=ar Tryz.func128 Tryz.call128 [] [] [] [] (jl n)
def c73 (n:Nat):PF Tryz.prog 73 [.i .i8,.i .i8] (.i .i64):=ar Tryz.func73 Tryz.call73 [(c128 n).e] [] [] [] (kz n)
def c129 (n:Nat):PF Tryz.prog 129 [.i .i64] (.b):=ar Tryz.func129 Tryz.call129 [] [] [] [] (iK n)
def c74 (n:Nat):PF Tryz.prog 74 [.i .i64,.i .i64] (.i .i64):=ar Tryz.func74 Tryz.call74 [(c129 n).e] [] [] [] (ju n)
def Gw (n:Nat):LP Tryz.prog Tryz.f72.ntmps:=bQ [] [] 0 (sb (acM [] [] Tryz.f72) 0) false ⟨[(3,.i .i64),(6,.ws 0),(7,.i .i64),(8,.i .i64)],q39,1,1,1,1⟩ [] [⟨.ret,⟨[(2,.i .i64)],[],1,1,1,1⟩⟩,⟨.exit 0,⟨[(3,.i .i64)],[],1,1,1,1⟩⟩] (mI n) n
def c72 (n:Nat):FF Tryz.prog 72 [.ws 0] q46 1 1 [⟨.i .i64,[],[],false⟩]:=funC Tryz.func72 Tryz.call72 [] [Gw n] [] [] [0] (qi n)
def c31 (n:Nat):PF Tryz.prog 31 [.ag [.i .i8,.i .i64],.ag [.i .i8,.i .i64]] (.i .i64):=ar Tryz.func31 Tryz.call31 [(c73 n).e,(c74 n).e,(c72 n).e] [] [] [] (kX n)
def c14 (n:Nat):PF Tryz.prog 14 [.ag q14,.ag q14] (.i .i64):=ar Tryz.func14 Tryz.call14 [(c8 n).e,(c12 n).e,(c31 n).e] [] [0] [] (jZ n)
def c4E (n:Nat):List (FE Tryz.prog):=[(c11 n).e,(c13 n).e,(c12 n).e,(c9 n).e,(c15 n).e,(c14 n).e]
def c4l0 (n:Nat):LP Tryz.prog Tryz.f4.ntmps:=bQ (c4E n) [] 0 (sb (acM [] [] Tryz.f4) 0) false ⟨[(1,.ws 0),(2,.ws 1),(3,.i .i64)],[(0,.rows [.s]),(1,.rows [.i .i8,.i .i64,.i .i8,.i .i64])],2,0,0,0⟩ [] [⟨.ret,⟨[(0,.b)],[],2,0,0,0⟩⟩,⟨.exit 0,⟨[],[],2,0,0,0⟩⟩] (iQ n) n
def c4l1 (n:Nat):LP Tryz.prog Tryz.f4.ntmps:=bQ (c4E n) [] 1 (sb (acM [] [] Tryz.f4) 1) false ⟨[(6,.ws 2),(7,.i .i64)],[(2,.rows [.s])],3,0,0,0⟩ [] [⟨.ret,⟨[(0,.b)],[],3,0,0,0⟩⟩,⟨.exit 2,⟨[],[],3,0,0,0⟩⟩] (iT n) n
def c4l2 (n:Nat):LP Tryz.prog Tryz.f4.ntmps:=bQ (c4E n) [] 2 (sb (acM [] [] Tryz.f4) 2) false ⟨[(11,.ws 3),(12,.i .i64)],[(3,.rows [.s])],4,0,0,0⟩ [] [⟨.ret,⟨[(0,.b)],[],4,0,0,0⟩⟩,⟨.exit 4,⟨[],[],4,0,0,0⟩⟩] (iZ n) n
def c4 (n:Nat):PF Tryz.prog 4 [] (.b):=ar Tryz.func4 Tryz.call4 (c4E n) [c4l0 n,c4l1 n,c4l2 n] [] [] (fK n)
def c130 (n:Nat):PF Tryz.prog 130 [.i .u16] (.s):=ar Tryz.func130 Tryz.call130 [] [] [] [] (gt n)
def c75E (n:Nat):List (FE Tryz.prog):=[(c130 n).e,(c131 n).e]
def Gt (n:Nat):LP Tryz.prog Tryz.f75.ntmps:=bQ (c75E n) [] 0 (sb (acM [] [] Tryz.f75) 0) false ⟨[(2,.p 1 0),(3,.p 50 0),(4,.i .i64),(5,.i .i64),(6,.s),(7,.i .i64)],[(1,.cells q19),(50,.cells q19)],162,0,0,0⟩ [] [⟨.exit 1,⟨[(2,.p 1 0),(3,.p 50 0),(6,.s)],[(1,.cells q19),(50,.cells q19)],162,0,0,0⟩⟩] (dn n) n
def c75 (n:Nat):PF Tryz.prog 75 [.ag [.i .u8,.b,.i .u16,.i .u8,.i .u8]] (.ag q19):=ar Tryz.func75 Tryz.call75 (c75E n) [Gt n] [] [] (gh n)
def c76 (n:Nat):PF Tryz.prog 76 [.ag q31] (.s):=ar Tryz.func76 Tryz.call76 [(c132 n).e] [] [] [] (dl n)
def c78 (n:Nat):PF Tryz.prog 78 [.ag q31,.s] (.s):=ar Tryz.func78 Tryz.call78 [(c132 n).e] [] [] [] (ed n)
def c32 (n:Nat):PF Tryz.prog 32 [.ag q31] (.ag q16):=ar Tryz.func32 Tryz.call32 [(c75 n).e,(c76 n).e,(c77 n).e,(c78 n).e,(c39 n).e] [] [0] [] (ay n)
def c16 (n:Nat):PF Tryz.prog 16 [.ag q31] (.ag q16):=ar Tryz.func16 Tryz.call16 [(c32 n).e] [] [] [] (fE n)
def c5 (n:Nat):PF Tryz.prog 5 [.ag q35] (.ag q14):=ar Tryz.func5 Tryz.call5 [(c16 n).e] [] [] [] (f8 n)
def Gi (n:Nat):LP Tryz.prog Tryz.f82.ntmps:=bQ [] [] 0 (sb (acM [] [] Tryz.f82) 0) false q48 [] [⟨.exit 0,⟨[(3,.i .u8)],[],1,1,1,1⟩⟩] (fq n) n
def c82 (n:Nat):FF Tryz.prog 82 [.sl 0 0 .q (some .q)] [.ints .u8 3] 1 1 [⟨.it 9 (.s),[],[],true⟩,⟨.i .u8,[],[],false⟩]:=funC Tryz.func82 Tryz.call82 [] [Gi n] [] [] [0] (gD n)
def GO (n:Nat):LP Tryz.prog Tryz.f83.ntmps:=bQ [] [] 0 (sb (acM [] [] Tryz.f83) 0) false q48 [] [⟨.exit 0,⟨[(3,.i .u8)],[],1,1,1,1⟩⟩] (fk n) n
def c83 (n:Nat):FF Tryz.prog 83 [.sl 0 0 .q (some .q)] [.ints .u8 3] 1 1 [⟨.it 9 (.s),[],[],true⟩,⟨.i .u8,[],[],false⟩]:=funC Tryz.func83 Tryz.call83 [] [GO n] [] [] [0] (gz n)
def c35 (n:Nat):PF Tryz.prog 35 q53 (.tp q56):=ar Tryz.func35 Tryz.call35 [(c81 n).e,(c82 n).e,(c83 n).e] [] [] [] (kj n)
end
end Go.Sh
