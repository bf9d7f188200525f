import Derived.Test.YtibehcmomiplnabGreatDoorAbsPat
import Derived.Test.YtibehcmomiplnabGreatDoorHGa
import Derived.Test.YtibehcmomiplnabGreatDoorHGb
import Derived.Test.YtibehcmomiplnabGreatDoorHGe
set_option linter.unusedSimpArgs false
set_option linter.unusedVariables false
set_option linter.defProp false
set_option maxRecDepth 100000
set_option maxHeartbeats 4000000
namespace Go.Sh
open Go.Abs Go.Proofs
noncomputable section
abbrev z3:=acM [] [4,6,11,13,18,20,25,27,32,34,36,41,43] Tryz.f60
abbrev z4:=acM [] [3,9,11,16,22,24,30,41,44,46,47] Tryz.f4
abbrev z6:=acM [] [3,17,20,23,30] Tryz.f91
abbrev z7:=LP Tryz.prog Tryz.f133.ntmps
abbrev z8:=LP Tryz.prog Tryz.f135.ntmps
abbrev z9:=LP Tryz.prog Tryz.f279.ntmps
abbrev zs:=LP Tryz.prog Tryz.f271.ntmps
abbrev zx:=LP Tryz.prog Tryz.f60.ntmps
abbrev z01:=LP Tryz.prog Tryz.f61.ntmps
abbrev z11:=LP Tryz.prog Tryz.f91.ntmps
abbrev z21:=LP Tryz.prog Tryz.f4.ntmps
abbrev z31:=acM [] [] Tryz.f133
abbrev z41:=acM [] [] Tryz.f135
abbrev z51:=acM [] [] Tryz.f279
abbrev z61:=acM [] [] Tryz.f271
abbrev z71:=acM [] [] Tryz.f61
abbrev z81:=sb (sb z51 1).body 2
abbrev z91:=sb (sb z6 0).body 1
abbrev za1:=sb z3 1032
abbrev zb1:=sb z4 1009
abbrev zc1:=sb z4 1022
abbrev zd1:=sb z91.body 1017
abbrev ze1:=sb (sb zd1 2).body 1030
abbrev q37:List PV:=[.s,.i .i64]
abbrev q45:List PV:=[.b,.b,.s,.i .i64,.i .i64]
abbrev q162:List PV:=[.ag q45]
abbrev q68:List PV:=[.i .u8,.b,.i .u16,.i .u8,.i .u8,.i .u8,.i .u8,.i .u8,.i .u8,.i .u8]
abbrev q24:List PV:=[.b,.b,.s,.i .i64,.i .i64,.s,.s,.i .u8,.i .u8,.i .u8]
abbrev q139:PSt:=⟨[(2,.i .i64)],[],1,0,0,0⟩
abbrev q108:List PV:=[.ag q24]
abbrev q53:List PV:=[.i .u8,.b,.b,.s,.i .i64,.i .i64,.s,.s,.i .u8,.i .u8,.i .u8]
abbrev q170:PSt:=⟨[(0,.s),(1,.i .i64),(5,.i .i64)],[],0,0,0,0⟩
abbrev q114:List (Nat×PV):=[(4,.i .i64)]
abbrev q154:PSt:=⟨q114,[],0,0,0,0⟩
abbrev q165:PSt:=⟨[],[],0,0,0,0⟩
abbrev q157:List PX:=[⟨.ret,⟨q114,[],1,0,0,0⟩⟩,⟨.exit 0,⟨[],[],1,0,0,0⟩⟩]
abbrev q143:List PV:=[.ai .u8 3,.i .i64]
abbrev q144:List (Nat×PB):=[(0,.cells q45)]
abbrev q102:List (Nat×PB):=[(0,.rows [.i .i64])]
abbrev q94:List (Nat×PB):=[(0,.cells q24),(1,.rows [.i .i64]),(2,.rows [.i .i64,.i .i64,.i .i64])]
abbrev q140:PSt:=⟨[(1,.i .i64),(2,.p 0 0),(5,.ws 2),(6,.ws 1),(7,.i .i64)],q94,3,0,0,0⟩
abbrev q100:PSt:=⟨[(0,.i .i64),(4,.i .i64),(5,.b)],[],0,0,0,0⟩
abbrev q101:PSt:=⟨[(0,.i .i64),(4,.i .i64),(9,.b)],[],0,0,0,0⟩
abbrev q98:PSt:=⟨[(0,.i .i64),(4,.i .i64),(13,.b)],[],0,0,0,0⟩
abbrev q99:PSt:=⟨[(0,.i .i64),(4,.i .i64),(17,.b)],[],0,0,0,0⟩
abbrev q75:PSt:=⟨[(0,.i .i64),(4,.i .i64),(21,.b)],[],0,0,0,0⟩
abbrev q166:PSt:=⟨[(0,.i .i64),(4,.i .i64),(30,.b)],[],0,0,0,0⟩
abbrev q173:List PX:=[⟨.nrm,⟨[(0,.i .i64),(30,.b)],[],0,0,0,0⟩⟩]
abbrev q103:PSt:=⟨[(0,.i .i64),(1,.i .i64),(5,.i .i64),(6,.i .i64)],[],0,0,0,0⟩
abbrev q137:List PX:=[⟨.exit 0,⟨[(5,.i .i64)],[],0,0,0,0⟩⟩]
abbrev q33:List PV:=[.bd,.b,.s,.i .i64,.i .i64,.s,.s,.i .u8,.i .u8,.i .u8]
abbrev q25:List PV:=[.bd,.b,.s,.i .i64,.i .i64,.s,.s,.i .u8,.i .u8,.i .u8,.b,.bd,.b,.s,.i .i64,.i .i64,.s,.s,.i .u8,.i .u8,.i .u8]
abbrev q15:List Lf:=[.i .u8,.bo,.i .u16,.i .u8,.i .u8,.i .u8,.i .u8,.i .u8,.i .u8,.i .u8,.i .u8,.i .u8,.bo,.i .u16,.i .u8,.i .u8,.i .u8,.i .u8,.i .u8,.i .u8,.i .u8]
abbrev q112:List PV:=[.i .u8,.ws 0,.i .u8,.i .u8,.i .u8]
abbrev q13:List PV:=[.ik .u8 0,.bk false,.bk false,.sk [],.ik .i64 0,.ik .i64 0,.sk [],.sk [],.ik .u8 0,.ik .u8 0,.ik .u8 0,.ik .u8 0,.bk false,.bk false,.sk [],.ik .i64 0,.ik .i64 0,.sk [],.sk [],.ik .u8 0,.ik .u8 0,.ik .u8 0,.ik .u8 0,.bk false,.bk false,.sk [],.ik .i64 0,.ik .i64 0,.sk [],.sk [],.ik .u8 0,.ik .u8 0,.ik .u8 0,.ws 3,.bk false,.bk false]
abbrev q11:List Lf:=[.bo,.bo,.s,.i .i64,.i .i64,.s,.s,.i .u8,.i .u8,.i .u8,.bo,.bo,.bo,.s,.i .i64,.i .i64,.s,.s,.i .u8,.i .u8,.i .u8]
abbrev q43:List (Nat×PB):=[(0,.rows q15),(1,.cells q112),(2,.cells q13),(3,.rows q11)]
abbrev q14:List PV:=[.ik .u8 0,.bk false,.bk false,.sk [],.ik .i64 0,.ik .i64 0,.sk [],.sk [],.ik .u8 0,.ik .u8 0,.ik .u8 0,.ik .u8 0,.bk false,.bk false,.sk [],.ik .i64 0,.ik .i64 0,.sk [],.sk [],.ik .u8 0,.ik .u8 0,.ik .u8 0,.ik .u8 0,.bk false,.bk false,.sk [],.ik .i64 0,.ik .i64 0,.sk [],.sk [],.ik .u8 0,.ik .u8 0,.ik .u8 0,.ws 4,.bk false,.bk false]
abbrev q44:List (Nat×PB):=[(0,.rows q15),(1,.cells q112),(2,.cells q14),(3,.rows q15),(4,.rows q11)]
abbrev q71:PSt:=⟨[(1,.p 1 0),(2,.p 2 0),(3,.rs 21 3 0 .q none),(23,.i .u8),(24,.b)],q44,5,1,1,1⟩
abbrev q72:PSt:=⟨[(1,.p 1 0),(2,.p 2 0),(3,.rs 21 0 0 .q none),(23,.i .u8),(24,.b)],q43,4,1,1,1⟩
abbrev q21:List PV:=[.ik .u8 0,.bk false,.bk false,.sk [],.ik .i64 0,.ik .i64 0,.sk [],.sk [],.ik .u8 0,.ik .u8 0,.ik .u8 0,.ik .u8 0,.bk false,.bk false,.sk [],.ik .i64 0,.ik .i64 0,.sk [],.sk [],.ik .u8 0,.ik .u8 0,.ik .u8 0,.ik .u8 0,.bk false,.bk false,.sk [],.ik .i64 0,.ik .i64 0,.sk [],.sk [],.ik .u8 0,.ik .u8 0,.ik .u8 0,.ws 5,.bk false,.bk false]
abbrev q35:List PV:=[.i .u8,.bd,.b,.s,.i .i64,.i .i64,.s,.s,.i .u8,.i .u8,.i .u8]
abbrev q133:List (Nat×PB):=[(1,.cells q21),(2,.rows q15),(3,.cells q35),(4,.cells q35),(5,.rows q11)]
abbrev q60:List PX:=[⟨.nrm,⟨[(2,.p 1 0),(4,.p 2 0),(5,.p 3 0)],[(1,.cells q14),(2,.cells q35),(3,.cells q35),(4,.rows q11)],5,1,1,1⟩⟩]
abbrev q134:List (Nat×PB):=[(0,.rows q15),(1,.cells q14),(2,.cells q35),(3,.cells q35),(4,.rows q11)]
abbrev q167:List (Nat×PV):=[(2,.p 1 0),(3,.rs 21 2 0 .q none),(6,.p 3 0)]
abbrev q54:List (Nat×PB):=[(1,.cells q14),(2,.rows q15),(3,.cells [.i .u8,.bk false,.bk false,.sk [],.ik .i64 0,.ik .i64 0,.sk [],.sk [],.ik .u8 0,.ik .u8 0,.ik .u8 0,.ik .u8 0,.bk false,.bk false,.sk [],.ik .i64 0,.ik .i64 0,.sk [],.sk [],.ik .u8 0,.ik .u8 0,.ik .u8 0,.ik .u8 0,.bk false,.bk false,.sk [],.ik .i64 0,.ik .i64 0,.sk [],.sk [],.ik .u8 0,.ik .u8 0,.ik .u8 0,.ws 5,.b,.b]),(4,.rows q11),(5,.rows q11)]
abbrev q168:List (Nat×PV):=[(2,.p 1 0),(3,.rs 21 0 0 .q none),(6,.p 2 0)]
abbrev q55:List (Nat×PB):=[(0,.rows q15),(1,.cells q13),(2,.cells [.i .u8,.bk false,.bk false,.sk [],.ik .i64 0,.ik .i64 0,.sk [],.sk [],.ik .u8 0,.ik .u8 0,.ik .u8 0,.ik .u8 0,.bk false,.bk false,.sk [],.ik .i64 0,.ik .i64 0,.sk [],.sk [],.ik .u8 0,.ik .u8 0,.ik .u8 0,.ik .u8 0,.bk false,.bk false,.sk [],.ik .i64 0,.ik .i64 0,.sk [],.sk [],.ik .u8 0,.ik .u8 0,.ik .u8 0,.ws 4,.b,.b]),(3,.rows q11),(4,.rows q11)]
abbrev q20:List PV:=[.i .u8,.bd,.b,.s,.i .i64,.i .i64,.s,.s,.i .u8,.i .u8,.i .u8,.i .u8,.bd,.b,.s,.i .i64,.i .i64,.s,.s,.i .u8,.i .u8,.i .u8,.i .u8,.bd,.b,.s,.i .i64,.i .i64,.s,.s,.i .u8,.i .u8,.i .u8,.ws 4,.b,.b]
abbrev q30:List PV:=[.i .u8,.bd,.b,.s,.i .i64,.i .i64,.s,.s,.i .u8,.i .u8,.i .u8,.i .u8,.bd,.b,.s,.i .i64,.i .i64,.s,.s,.i .u8,.i .u8,.i .u8,.i .u8,.bd,.b,.s,.i .i64,.i .i64,.s,.s,.i .u8,.i .u8,.i .u8,.ws 5,.b,.b]
abbrev q76:List (Nat×PB):=[(1,.cells q20),(2,.rows q15),(3,.cells q30),(4,.rows q11),(5,.rows q11)]
abbrev q27:List PV:=[.i .u8,.bd,.b,.s,.i .i64,.i .i64,.s,.s,.i .u8,.i .u8,.i .u8,.i .u8,.bd,.b,.s,.i .i64,.i .i64,.s,.s,.i .u8,.i .u8,.i .u8,.i .u8,.bd,.b,.s,.i .i64,.i .i64,.s,.s,.i .u8,.i .u8,.i .u8,.ws 3,.b,.b]
abbrev q77:List (Nat×PB):=[(0,.rows q15),(1,.cells q27),(2,.cells q20),(3,.rows q11),(4,.rows q11)]
abbrev q65:List (Nat×PB):=[(1,.cells q27),(2,.cells q20),(3,.rows q11),(4,.rows q11)]
abbrev q115:PSt:=⟨[(2,.p 1 0),(6,.p 2 0),(8,.i .i64)],q65,5,1,1,1⟩
abbrev q169:PSt:=⟨[(2,.p 1 0),(6,.p 2 0),(139,.b)],q65,5,1,1,1⟩
abbrev q39:List PV:=[.i .u8,.bd,.b,.s,.i .i64,.i .i64,.s,.s,.i .u8,.i .u8,.i .u8,.i .u8,.bd,.b,.s,.i .i64,.i .i64,.s,.s,.i .u8,.i .u8,.i .u8,.i .u8,.bd,.b,.s,.i .i64,.i .i64,.s,.s,.i .u8,.i .u8,.i .u8,.ws 1,.b,.b]
abbrev q12:List PV:=[.i .u8,.bd,.b,.s,.i .i64,.i .i64,.s,.s,.i .u8,.i .u8,.i .u8,.i .u8,.bd,.b,.s,.i .i64,.i .i64,.s,.s,.i .u8,.i .u8,.i .u8,.i .u8,.bd,.b,.s,.i .i64,.i .i64,.s,.s,.i .u8,.i .u8,.i .u8,.ws 0,.b,.b]
abbrev q135:List PV:=[.ag q12]
abbrev q96:List PB:=[.rows q11]
abbrev q158:List (Nat×PV):=[(0,.s),(7,.s),(8,.i .i64),(9,.i .i64),(12,.i .i64)]
abbrev q85:List PV:=[.i .i8,.i .i64,.i .i8,.i .i64]
abbrev q49:List PV:=[.b,.b,.s,.i .i64,.i .i64,.s,.s,.i .u8,.i .u8,.i .u8,.ws 0,.ws 1]
abbrev q127:List PB:=[.rows [.i .i64]]
abbrev q97:PSt:=⟨[(0,.s),(1,.i .i64),(2,.b),(8,.i .u8),(9,.i .u8),(10,.p 0 0),(11,.p 1 0),(12,.i .i64)],[(0,.ints .u8 18),(1,.ints .u8 18)],2,0,0,0⟩
abbrev q147:List PB:=[.rows [.i .i64],.rows [.i .i64]]
abbrev q90:List (Nat×PB):=[(0,.rows [.i .i64]),(1,.rows [.i .i64]),(2,.cells q49),(3,.cells [.i .i64,.i .i64,.i .i64]),(4,.cells [.b]),(5,.cells [.ik .i64 0,.ik .i64 0,.ik .i64 0])]
abbrev q18:List (Nat×PB):=[(0,.rows [.i .i64]),(1,.rows [.i .i64]),(2,.cells q49),(3,.cells [.i .i64,.i .i64,.i .i64]),(4,.cells [.b]),(5,.cells [.i .i64,.i .i64,.i .i64]),(62,.rows [.i .i64]),(63,.rows [.i .i64])]
abbrev q22:List (Nat×PB):=[(0,.rows [.i .i64]),(1,.rows [.i .i64]),(2,.cells q49),(3,.cells [.i .i64,.i .i64,.i .i64]),(4,.cells [.b]),(5,.cells [.i .i64,.i .i64,.i .i64])]
abbrev q81:PSt:=⟨[(3,.p 2 0),(4,.p 3 0),(5,.p 4 0),(6,.p 5 0),(8,.i .i64),(9,.ws 62),(10,.ws 63),(11,.fn 142 [.p 4 0]),(12,.i .i64),(15,.i .i64),(16,.b),(17,.i .i64),(53,.ws 62),(54,.i .i64),(55,.i .i64)],q18,64,2,2,2⟩
abbrev q82:PSt:=⟨[(3,.p 2 0),(4,.p 3 0),(5,.p 4 0),(6,.p 5 0),(8,.i .i64),(9,.ws 0),(10,.ws 1),(11,.fn 142 [.p 4 0]),(12,.i .i64),(15,.i .i64),(16,.b),(17,.i .i64),(53,.ws 0),(54,.i .i64),(55,.i .i64)],q22,62,2,2,2⟩
abbrev q105:List (Nat×PV):=[(6,.p 5 0),(7,.b)]
abbrev q63:List (Nat×PB):=[(5,.cells [.i .i64,.i .i64,.i .i64])]
abbrev q163:PSt:=⟨q105,q63,64,2,2,2⟩
abbrev q48:PSt:=⟨[(3,.p 2 0),(4,.p 3 0),(5,.p 4 0),(6,.p 5 0),(8,.i .i64),(9,.ws 62),(10,.ws 63),(11,.fn 142 [.p 4 0]),(12,.i .i64),(53,.ws 62),(54,.i .i64),(55,.i .i64)],q18,64,2,2,2⟩
abbrev q164:PSt:=⟨q105,q63,62,2,2,2⟩
abbrev q50:PSt:=⟨[(3,.p 2 0),(4,.p 3 0),(5,.p 4 0),(6,.p 5 0),(8,.i .i64),(9,.ws 0),(10,.ws 1),(11,.fn 142 [.p 4 0]),(12,.i .i64),(53,.ws 0),(54,.i .i64),(55,.i .i64)],q22,62,2,2,2⟩
abbrev q150:List PV:=[.p 0 0,.p 1 0]
abbrev q57:List PV:=[.i .u8,.bd,.b,.s,.i .i64,.i .i64,.s,.s,.i .u8,.i .u8,.i .u8,.i .u8,.bd,.b,.s,.i .i64,.i .i64,.s,.s,.i .u8,.i .u8,.i .u8,.i .u8,.bd,.b,.s,.i .i64,.i .i64,.s,.s,.i .u8,.i .u8,.i .u8,.ws 2,.b,.b]
abbrev q91:List PV:=[.i .i64,.fn 97 [.p 1 0,.p 2 0],.i .i64,.fn 98 [.p 2 0,.p 3 0,.p 1 0],.i .i64,.fn 100 [.p 2 0,.p 3 0,.p 4 0,.p 1 0],.i .i64,.fn 101 [.p 2 0,.p 4 0]]
abbrev q92:List PX:=[⟨.ret,⟨[(2,.i .i64),(3,.i .i64)],[],1,1,1,1⟩⟩,⟨.exit 0,⟨[],[],1,1,1,1⟩⟩]
abbrev q131:PSt:=⟨[(0,.sl 0 0 .q (some .q)),(3,.i .u8),(4,.i .i64)],[(0,.ints .u8 3)],1,1,1,1⟩
abbrev q156:List PV:=[.ai .u8 3,.ai .u8 3,.i .i64]
def c54(n:Nat):PF Tryz.prog 54 [.i .u16] (.s):=aO Tryz.func54 Tryz.call54 [] [] [] [] (mG n)
def ac5(n:Nat):LP Tryz.prog Tryz.f85.ntmps:=cw [] [] 0 (sb (acM [] [] Tryz.f85) 0) false ⟨[(0,.s),(1,.i .u8),(2,.i .u8),(7,.i .i64),(8,.i .i64)],[],0,0,0,0⟩ [] [⟨.exit 0,⟨[(7,.i .i64)],[],0,0,0,0⟩⟩] (jb n) n
def c85(n:Nat):PF Tryz.prog 85 [.s,.i .u8,.i .u8] (.i .i64):=aO Tryz.func85 Tryz.call85 [] [ac5 n] [] [] (iD n)
def acr(n:Nat):LP Tryz.prog Tryz.f58.ntmps:=cw [] [] 0 (sb (acM [] [] Tryz.f58) 0) false ⟨[(0,.s),(1,.i .i64),(6,.i .i64),(7,.i .i64)],[],0,0,0,0⟩ [] [⟨.ret,⟨[(4,.i .i64),(5,.i .i64)],[],0,0,0,0⟩⟩,⟨.exit 0,⟨[(6,.i .i64)],[],0,0,0,0⟩⟩] (gn n) n
def c58(n:Nat):PF Tryz.prog 58 q37 (.tp [.i .i64,.i .i64]):=aO Tryz.func58 Tryz.call58 [] [acr n] [] [] (aq n)
def c55(n:Nat):PF Tryz.prog 55 q162 (.i .i64):=aO Tryz.func55 Tryz.call55 [(c85 n).e,(c58 n).e] [] [] [] (dq n)
def c31E(n:Nat):List (FE Tryz.prog):=[(c54 n).e,(c55 n).e]
def acz(n:Nat):LP Tryz.prog Tryz.f31.ntmps:=cw (c31E n) [] 0 (sb (acM [] [] Tryz.f31) 0) false ⟨[(2,.p 1 0),(3,.p 50 0),(4,.i .i64),(5,.i .i64),(6,.s),(7,.i .i64)],[(1,.cells q45),(50,.cells q45)],162,0,0,0⟩ [] [⟨.exit 1,⟨[(2,.p 1 0),(3,.p 50 0),(6,.s)],[(1,.cells q45),(50,.cells q45)],162,0,0,0⟩⟩] (hO n) n
def c31(n:Nat):PF Tryz.prog 31 [.ag [.i .u8,.b,.i .u16,.i .u8,.i .u8]] (.ag q45):=aO Tryz.func31 Tryz.call31 (c31E n) [acz n] [] [] (kD n)
def c56(n:Nat):PF Tryz.prog 56 [.i .i64] (.s):=aO Tryz.func56 Tryz.call56 [] [] [] [] (bj n)
def c32(n:Nat):PF Tryz.prog 32 [.ag q68] (.s):=aO Tryz.func32 Tryz.call32 [(c56 n).e] [] [] [] (ie n)
def c33E(n:Nat):List (FE Tryz.prog):=[(c56 n).e]
def acP(n:Nat):LP Tryz.prog Tryz.f33.ntmps:=cw (c33E n) [] 0 (sb (acM [] [] Tryz.f33) 0) false ⟨[(1,.p 0 0),(3,.i .i64)],[(0,.cells q24)],1,0,0,0⟩ [] [⟨.ret,q139⟩,⟨.exit 0,⟨[],[],1,0,0,0⟩⟩] (cq n) n
def c33(n:Nat):PF Tryz.prog 33 q108 (.i .i64):=aO Tryz.func33 Tryz.call33 (c33E n) [acP n] [] [] (aC n)
def c34(n:Nat):PF Tryz.prog 34 [.ag q68,.s] (.s):=aO Tryz.func34 Tryz.call34 [(c56 n).e] [] [] [] (jP n)
def c35(n:Nat):PF Tryz.prog 35 q108 (.i .i64):=aO Tryz.func35 Tryz.call35 [] [] [] [] (am n)
def c12(n:Nat):PF Tryz.prog 12 [.ag q68] (.ag q24):=aO Tryz.func12 Tryz.call12 [(c31 n).e,(c32 n).e,(c33 n).e,(c34 n).e,(c35 n).e] [] [0] [] (aQ n)
def c15(n:Nat):PF Tryz.prog 15 [.ag q68] (.ag q24):=aO Tryz.func15 Tryz.call15 [(c12 n).e] [] [] [] (bX n)
def c13(n:Nat):PF Tryz.prog 13 [.ag [.i .u8,.i .u8,.b,.i .u16,.i .u8,.i .u8,.i .u8,.i .u8,.i .u8,.i .u8,.i .u8]] (.ag q53):=aO Tryz.func13 Tryz.call13 [(c15 n).e] [] [] [] (cO n)
def c185(n:Nat):PF Tryz.prog 185 q162 (.i .i64):=aO Tryz.func185 Tryz.call185 [(c85 n).e] [] [] [] (aJ n)
def c130(n:Nat):PF Tryz.prog 130 q108 (.i .i64):=aO Tryz.func130 Tryz.call130 [(c55 n).e,(c33 n).e,(c185 n).e,(c58 n).e] [] [] [] (kq n)
def c186(n:Nat):PF Tryz.prog 186 q37 (.i .i64):=aO Tryz.func186 Tryz.call186 [(c56 n).e] [] [] [] (fe n)
def YG(n:Nat):List (FE Tryz.prog):=[(c186 n).e]
def aaj(n:Nat):LP Tryz.prog Tryz.f131.ntmps:=cw (YG n) [] 0 (sb (acM [] [] Tryz.f131) 0) false q170 [] [⟨.ret,q154⟩,⟨.exit 0,q165⟩] (eH n) n
def c131(n:Nat):PF Tryz.prog 131 q37 (.i .i64):=aO Tryz.func131 Tryz.call131 (YG n) [aaj n] [] [] (ew n)
def aav(n:Nat):LP Tryz.prog Tryz.f132.ntmps:=cw [] [] 0 (sb (acM [] [] Tryz.f132) 0) false ⟨[(1,.i .i64),(2,.p 0 0),(5,.i .i64)],[(0,.ints .u8 3)],1,0,0,0⟩ [] q157 (ei n) n
def c132(n:Nat):PF Tryz.prog 132 q143 (.i .i64):=aO Tryz.func132 Tryz.call132 [] [aav n] [] [] (ct n)
def c86(n:Nat):PF Tryz.prog 86 q108 (.i .i64):=aO Tryz.func86 Tryz.call86 [(c130 n).e,(c33 n).e,(c131 n).e,(c35 n).e,(c132 n).e] [] [] [] (lJ n)
def V8(n:Nat):List (FE Tryz.prog):=[(c185 n).e,(c58 n).e]
def Zf(n:Nat):z7:=cw (V8 n) [] 0 (sb z31 0) false ⟨[(1,.p 0 0),(4,.s),(5,.s),(6,.i .i64)],q144,1,0,0,0⟩ [] [⟨.exit 0,⟨[(1,.p 0 0),(4,.s),(5,.s)],q144,1,0,0,0⟩⟩] (ia n) n
def Zh(n:Nat):z7:=cw (V8 n) [] 1 (sb z31 1) false ⟨[(1,.p 0 0),(4,.s),(5,.s),(9,.i .i64)],q144,1,0,0,0⟩ [] [⟨.exit 2,⟨[(1,.p 0 0),(4,.s),(5,.s)],q144,1,0,0,0⟩⟩] (qL n) n
def c133(n:Nat):PF Tryz.prog 133 q162 (.tp [.i .i64,.i .i64]):=aO Tryz.func133 Tryz.call133 (V8 n) [Zf n,Zh n] [] [] (aU n)
def YO(n:Nat):List (FE Tryz.prog):=[(c185 n).e,(c58 n).e]
def ZT(n:Nat):LP Tryz.prog Tryz.f134.ntmps:=cw (YO n) [] 0 (sb (acM [] [] Tryz.f134) 0) false ⟨[(1,.i .i64),(2,.p 0 0),(5,.i .i64)],q144,1,0,0,0⟩ [] [⟨.ret,⟨q114,[],1,0,0,0⟩⟩,⟨.exit 0,⟨[(1,.i .i64)],[],1,0,0,0⟩⟩] (cr n) n
def c134(n:Nat):PF Tryz.prog 134 [.ag q45,.i .i64] (.i .i64):=aO Tryz.func134 Tryz.call134 (YO n) [ZT n] [] [] (pt n)
def abu(n:Nat):List (FE Tryz.prog):=[(c33 n).e,(c186 n).e]
def YJ(n:Nat):LP Tryz.prog Tryz.f187.ntmps:=cw (abu n) [] 0 (sb (acM [] [] Tryz.f187) 0) false ⟨[(1,.p 0 0),(3,.ws 1),(4,.i .i64)],[(0,.cells q24),(1,.rows [.i .i64])],2,0,0,0⟩ [.nilT 3 1 [.i .i64]] [⟨.exit 0,⟨[(3,.ws 1)],[(1,.rows [.i .i64])],2,0,0,0⟩⟩] (eO n) n
def c187(n:Nat):FF Tryz.prog 187 q108 [] 0 0 [⟨.ws 0,q102,[0],false⟩]:=funC Tryz.func187 Tryz.call187 (abu n) [YJ n] [] [] [] (kS n)
def c88(n:Nat):PF Tryz.prog 88 [.i .i64,.i .i64] (.i .i64):=aO Tryz.func88 Tryz.call88 [] [] [] [] (fi n)
def Wj(n:Nat):List (FE Tryz.prog):=[(c187 n).e,(c88 n).e,(c186 n).e]
def abo(n:Nat):z8:=cw (Wj n) [] 1 (sb (sb z41 0).body 1) false ⟨[(1,.i .i64),(2,.p 0 0),(5,.ws 2),(6,.ws 1),(7,.i .i64),(8,.i .i64)],q94,3,0,0,0⟩ [] [⟨.exit 2,q140⟩] (fJ n) n
def ZU(n:Nat):z8:=cw (Wj n) [abo n] 0 (sb z41 0) false q140 [.nilT 5 2 [.i .i64,.i .i64,.i .i64]] [⟨.exit 0,⟨[(5,.ws 2)],[(2,.rows [.i .i64,.i .i64,.i .i64])],3,0,0,0⟩⟩] (fE n) n
def c135(n:Nat):FF Tryz.prog 135 [.ag q24,.i .i64] [] 0 0 [⟨.ws 0,[(0,.rows [.i .i64,.i .i64,.i .i64])],[0],false⟩]:=funC Tryz.func135 Tryz.call135 (Wj n) [ZU n] [] [] [] (mf n)
def c87E(n:Nat):List (FE Tryz.prog):=[(c133 n).e,(c134 n).e,(c135 n).e]
def adp(n:Nat):LP Tryz.prog Tryz.f87.ntmps:=cw (c87E n) [] 0 (sb (acM [] [] Tryz.f87) 0) false ⟨[(1,.p 0 0),(4,.i .i64),(5,.i .i64)],[(0,.cells q24)],1,0,0,0⟩ [] [⟨.ret,q139⟩,⟨.exit 0,⟨[],[],1,0,0,0⟩⟩] (g9 n) n
def c87(n:Nat):PF Tryz.prog 87 q108 (.i .i64):=aO Tryz.func87 Tryz.call87 (c87E n) [adp n] [] [] (mr n)
def c57(n:Nat):PF Tryz.prog 57 q108 (.i .i64):=aO Tryz.func57 Tryz.call57 [(c86 n).e,(c87 n).e] [] [] [] (cQ n)
def acT(n:Nat):LP Tryz.prog Tryz.f52.ntmps:=cw [] [] 0 (sb (acM [] [] Tryz.f52) 0) false ⟨[(1,.p 0 0),(3,.s),(4,.i .i64)],[(0,.cells q24)],1,0,0,0⟩ [] [⟨.ret,q139⟩,⟨.exit 0,⟨[(1,.p 0 0)],[(0,.cells q24)],1,0,0,0⟩⟩] (fb n) n
def c52(n:Nat):PF Tryz.prog 52 q108 (.i .i64):=aO Tryz.func52 Tryz.call52 [] [acT n] [] [] (aX n)
def c36(n:Nat):PF Tryz.prog 36 [.ag q53] (.i .i64):=aO Tryz.func36 Tryz.call36 [(c57 n).e,(c52 n).e] [] [] [] (fS n)
def c59E(n:Nat):List (FE Tryz.prog):=[(c88 n).e]
def acN(n:Nat):LP Tryz.prog Tryz.f59.ntmps:=cw (c59E n) [] 0 (sb (acM [] [] Tryz.f59) 0) false ⟨[(0,.i .i64),(4,.i .i64),(5,.i .i64)],[],0,0,0,0⟩ [] [⟨.exit 0,q154⟩] (dJ n) n
def c59(n:Nat):PF Tryz.prog 59 [.i .i64] (.i .i64):=aO Tryz.func59 Tryz.call59 (c59E n) [acN n] [] [] (cP n)
def ab5(n:Nat):zx:=cj [] [] 1006 (sb (sb z3 1004) 1006) false q100 [⟨.nrm,q100⟩] (oV n)
def ack(n:Nat):zx:=cj [] [ab5 n] 1004 (sb z3 1004) false q100 [⟨.nrm,q100⟩] (oM n)
def aa8(n:Nat):zx:=cj [] [] 1013 (sb (sb z3 1011) 1013) false q101 [⟨.nrm,q101⟩] (nT n)
def ZP(n:Nat):zx:=cj [] [aa8 n] 1011 (sb z3 1011) false q101 [⟨.nrm,q101⟩] (nQ n)
def aaF(n:Nat):zx:=cj [] [] 1020 (sb (sb z3 1018) 1020) false q98 [⟨.nrm,q98⟩] (og n)
def abz(n:Nat):zx:=cj [] [aaF n] 1018 (sb z3 1018) false q98 [⟨.nrm,q98⟩] (nR n)
def aam(n:Nat):zx:=cj [] [] 1027 (sb (sb z3 1025) 1027) false q99 [⟨.nrm,q99⟩] (oc n)
def aar(n:Nat):zx:=cj [] [aam n] 1025 (sb z3 1025) false q99 [⟨.nrm,q99⟩] (nY n)
def Yz(n:Nat):zx:=cj [] [] 1036 (sb (sb za1 1034) 1036) false q75 [⟨.nrm,q75⟩] (nO n)
def Z8(n:Nat):zx:=cj [] [Yz n] 1034 (sb za1 1034) false q75 [⟨.nrm,q75⟩] (n8 n)
def ZZ(n:Nat):zx:=cj [] [Z8 n] 1032 za1 false q75 [⟨.nrm,q75⟩] (nW n)
def ZG(n:Nat):zx:=cj [] [] 1043 (sb (sb z3 1041) 1043) false q166 q173 (nP n)
def aac(n:Nat):zx:=cj [] [ZG n] 1041 (sb z3 1041) false q166 q173 (n7 n)
def c60(n:Nat):PF Tryz.prog 60 [.i .i64] (.tp [.i .i64,.i .i64]):=aO Tryz.func60 Tryz.call60 [] [ack n,ZP n,abz n,aar n,ZZ n,aac n] [] [4,6,11,13,18,20,25,27,32,34,36,41,43] (i7 n)
def c61E(n:Nat):List (FE Tryz.prog):=[(c59 n).e,(c88 n).e]
def ac2(n:Nat):z01:=cw (c61E n) [] 0 (sb z71 0) false q103 [] q137 (mX n) n
def c61(n:Nat):PF Tryz.prog 61 [.i .i64,.i .i64] (.i .i64):=aO Tryz.func61 Tryz.call61 (c61E n) [ac2 n] [] [] (pW n)
def U1(n:Nat):List (FE Tryz.prog):=[(c61 n).e,(c59 n).e,(c88 n).e]
def Xo(n:Nat):z01:=cw (U1 n) [] 0 (sb z71 0) false q103 [] q137 (kb n) n
def abO(n:Nat):PF Tryz.prog 61 [.i .i64,.i .i64] (.i .i64):=aO Tryz.func61 Tryz.call61 (U1 n) [Xo n] [] [] (lQ n)
def U3(n:Nat):List (FE Tryz.prog):=[(abO n).e,(c59 n).e,(c88 n).e]
def WF(n:Nat):z01:=cw (U3 n) [] 0 (sb z71 0) false q103 [] q137 (lO n) n
def acS(n:Nat):PF Tryz.prog 61 [.i .i64,.i .i64] (.i .i64):=aO Tryz.func61 Tryz.call61 (U3 n) [WF n] [] [] (aY n)
def c62(n:Nat):PF Tryz.prog 62 [.s] (.i .i64):=aO Tryz.func62 Tryz.call62 [] [] [] [] (bq n)
def c37(n:Nat):PF Tryz.prog 37 q108 (.tp [.i .i64,.i .i64]):=aO Tryz.func37 Tryz.call37 [(c58 n).e,(c33 n).e,(c59 n).e,(c60 n).e,(acS n).e,(c62 n).e] [] [] [] (bn n)
def c14(n:Nat):PF Tryz.prog 14 [.ag q53,.ag q53] (.i .i64):=aO Tryz.func14 Tryz.call14 [(c36 n).e,(c37 n).e] [] [] [] (fB n)
def c17(n:Nat):PF Tryz.prog 17 [.ag q68] (.ag q33):=aO Tryz.func17 Tryz.call17 [(c15 n).e] [] [] [] (cN n)
def c38(n:Nat):PF Tryz.prog 38 [.ag q33,.i .i64] (.ag q33):=aO Tryz.func38 Tryz.call38 [] [] [] [] (lC n)
def c16(n:Nat):PF Tryz.prog 16 [.ag [.i .u8,.b,.i .u16,.i .u8,.i .u8,.i .u8,.i .u8,.i .u8,.i .u8,.i .u8,.i .u8,.i .u8,.b,.i .u16,.i .u8,.i .u8,.i .u8,.i .u8,.i .u8,.i .u8,.i .u8],.b] (.ag q25):=aO Tryz.func16 Tryz.call16 [(c17 n).e,(c35 n).e,(c38 n).e,(c37 n).e,(c15 n).e,(c12 n).e] [] [] [] (jc n)
def c4E(n:Nat):List (FE Tryz.prog):=[(c12 n).e,(c13 n).e,(c14 n).e,(c15 n).e,(c16 n).e,(c17 n).e]
def c4j3(n:Nat):z21:=cj (c4E n) [] 1003 (sb z4 1003) true ⟨[(1,.p 1 0),(2,.p 2 0),(3,.ws 0),(13,.b)],q43,4,1,1,1⟩ [⟨.nrm,⟨[(1,.p 1 0),(2,.p 2 0),(3,.ws 3)],q44,5,1,1,1⟩⟩,⟨.nrm,⟨[(1,.p 1 0),(2,.p 2 0),(3,.ws 0)],q43,4,1,1,1⟩⟩] (mI n)
def Z7(n:Nat):z21:=cj (c4E n) [] 1011 (sb zb1 1011) true q71 [⟨.nrm,q71⟩] (lR n)
def UW(n:Nat):z21:=cj (c4E n) [] 1011 (sb zb1 1011) true q72 [⟨.nrm,q72⟩] (kZ n)
def c4j9(n:Nat):z21:=cj (c4E n) [altL (Z7 n) (UW n) rfl] 1009 zb1 true q71 [⟨.nrm,q71⟩] (kg n)
def acQ(n:Nat):z21:=cj (c4E n) [altL (Z7 n) (UW n) rfl] 1009 zb1 true q72 [⟨.nrm,q72⟩] (ju n)
def acZ(n:Nat):z21:=cj (c4E n) [] 1016 (sb z4 1016) true ⟨[(1,.p 1 0),(2,.p 2 0),(3,.rs 21 3 0 .q none),(23,.i .u8),(34,.b)],q44,5,1,1,1⟩ [⟨.nrm,⟨[(1,.p 1 0),(2,.p 2 0),(3,.rs 21 3 0 .q none),(34,.b)],q44,5,1,1,1⟩⟩] (jq n)
def aaJ(n:Nat):z21:=cj (c4E n) [] 1016 (sb z4 1016) true ⟨[(1,.p 1 0),(2,.p 2 0),(3,.rs 21 0 0 .q none),(23,.i .u8),(34,.b)],q43,4,1,1,1⟩ [⟨.nrm,⟨[(1,.p 1 0),(2,.p 2 0),(3,.rs 21 0 0 .q none),(34,.b)],q43,4,1,1,1⟩⟩] (iL n)
def ZK(n:Nat):z21:=cj (c4E n) [] 1024 (sb zc1 1024) true ⟨[(2,.p 1 0),(3,.rs 21 2 0 .q none),(4,.p 3 0),(5,.p 4 0),(61,.b)],q133,6,1,1,1⟩ q60 (lS n)
def UV(n:Nat):z21:=cj (c4E n) [] 1024 (sb zc1 1024) true ⟨[(2,.p 1 0),(3,.rs 21 0 0 .q none),(4,.p 2 0),(5,.p 3 0),(61,.b)],q134,5,1,1,1⟩ q60 (kX n)
def acH(n:Nat):z21:=cj (c4E n) [altL (ZK n) (UV n) rfl] 1022 zc1 true ⟨[(2,.p 1 0),(3,.rs 21 2 0 .q none),(4,.p 3 0),(5,.p 4 0),(58,.b)],q133,6,1,1,1⟩ q60 (jF n)
def YP(n:Nat):z21:=cj (c4E n) [altL (ZK n) (UV n) rfl] 1022 zc1 true ⟨[(2,.p 1 0),(3,.rs 21 0 0 .q none),(4,.p 2 0),(5,.p 3 0),(58,.b)],q134,5,1,1,1⟩ q60 (iN n)
def aci(n:Nat):z21:=cj (c4E n) [] 1030 (sb z4 1030) true ⟨[(2,.p 1 0),(3,.rs 21 2 0 .q none),(6,.p 3 0),(86,.b)],[(1,.cells q14),(2,.rows q15),(3,.cells [.ik .u8 3,.bk false,.bk false,.sk [],.ik .i64 0,.ik .i64 0,.sk [],.sk [],.ik .u8 0,.ik .u8 0,.ik .u8 0,.ik .u8 0,.bk false,.bk false,.sk [],.ik .i64 0,.ik .i64 0,.sk [],.sk [],.ik .u8 0,.ik .u8 0,.ik .u8 0,.ik .u8 0,.bk false,.bk false,.sk [],.ik .i64 0,.ik .i64 0,.sk [],.sk [],.ik .u8 0,.ik .u8 0,.ik .u8 0,.ws 5,.b,.b]),(4,.rows q11),(5,.rows q11)],6,1,1,1⟩ [⟨.nrm,⟨q167,q54,6,1,1,1⟩⟩] (jL n)
def Zc(n:Nat):z21:=cj (c4E n) [] 1030 (sb z4 1030) true ⟨[(2,.p 1 0),(3,.rs 21 0 0 .q none),(6,.p 2 0),(86,.b)],[(0,.rows q15),(1,.cells q13),(2,.cells [.ik .u8 3,.bk false,.bk false,.sk [],.ik .i64 0,.ik .i64 0,.sk [],.sk [],.ik .u8 0,.ik .u8 0,.ik .u8 0,.ik .u8 0,.bk false,.bk false,.sk [],.ik .i64 0,.ik .i64 0,.sk [],.sk [],.ik .u8 0,.ik .u8 0,.ik .u8 0,.ik .u8 0,.bk false,.bk false,.sk [],.ik .i64 0,.ik .i64 0,.sk [],.sk [],.ik .u8 0,.ik .u8 0,.ik .u8 0,.ws 4,.b,.b]),(3,.rows q11),(4,.rows q11)],5,1,1,1⟩ [⟨.nrm,⟨q168,q55,5,1,1,1⟩⟩] (iR n)
def c4l0(n:Nat):z21:=cw (c4E n) [] 0 (sb z4 0) true ⟨[(2,.p 1 0),(3,.rs 21 2 0 .q none),(6,.p 3 0),(7,.i .i64)],q54,6,1,1,1⟩ [] [⟨.exit 1,⟨q167,q76,6,1,1,1⟩⟩] (dH n) n
def acd(n:Nat):z21:=cw (c4E n) [] 0 (sb z4 0) true ⟨[(2,.p 1 0),(3,.rs 21 0 0 .q none),(6,.p 2 0),(7,.i .i64)],q55,5,1,1,1⟩ [] [⟨.exit 1,⟨q168,q77,5,1,1,1⟩⟩] (dl n) n
def acR(n:Nat):z21:=cj (c4E n) [] 1041 (sb z4 1041) true ⟨[(2,.p 1 0),(3,.rs 21 2 0 .q none),(6,.p 3 0),(8,.i .i64),(111,.b)],q76,6,1,1,1⟩ [⟨.nrm,⟨[(2,.p 1 0),(3,.rs 21 2 0 .q none),(6,.p 3 0),(8,.i .i64)],q76,6,1,1,1⟩⟩] (jA n)
def Zd(n:Nat):z21:=cj (c4E n) [] 1041 (sb z4 1041) true ⟨[(2,.p 1 0),(3,.rs 21 0 0 .q none),(6,.p 2 0),(8,.i .i64),(111,.b)],q77,5,1,1,1⟩ [⟨.nrm,⟨[(2,.p 1 0),(3,.rs 21 0 0 .q none),(6,.p 2 0),(8,.i .i64)],q77,5,1,1,1⟩⟩] (iO n)
def abW(n:Nat):z21:=cj (c4E n) [] 1044 (sb z4 1044) true ⟨[(2,.p 1 0),(3,.rs 21 2 0 .q none),(6,.p 3 0),(8,.i .i64),(122,.b)],q76,6,1,1,1⟩ [⟨.nrm,q115⟩] (jB n)
def aas(n:Nat):z21:=cj (c4E n) [] 1044 (sb z4 1044) true ⟨[(2,.p 1 0),(3,.rs 21 0 0 .q none),(6,.p 2 0),(8,.i .i64),(122,.b)],q77,5,1,1,1⟩ [⟨.nrm,q115⟩] (iU n)
def acs(n:Nat):z21:=cj (c4E n) [] 1046 (sb z4 1046) true q115 [⟨.nrm,q169⟩] (gG n)
def adb(n:Nat):z21:=cj (c4E n) [] 1047 (sb z4 1047) true q169 [⟨.nrm,⟨[(2,.p 1 0),(6,.p 2 0)],q65,5,1,1,1⟩⟩] (gN n)
def c4(n:Nat):FF Tryz.prog 4 [.ag q112] [.rows q15] 1 1 [⟨.ag q39,[(1,.rows q11)],[1],false⟩]:=funC Tryz.func4 Tryz.call4 (c4E n) [c4j3 n,altL (c4j9 n) (acQ n) rfl,altL (acZ n) (aaJ n) rfl,altL (acH n) (YP n) rfl,altL (aci n) (Zc n) rfl,altL (c4l0 n) (acd n) rfl,altL (acR n) (Zd n) rfl,altL (abW n) (aas n) rfl,acs n,adb n] [] [3,9,11,16,22,24,30,41,44,46,47] [0] (mc n)
def c63(n:Nat):FF Tryz.prog 63 q135 q96 1 1 [⟨.b,[],[],false⟩]:=funC Tryz.func63 Tryz.call63 [] [] [] [] [0] (nS n)
noncomputable def SI(_n:Nat):Ent:=Yh 43 199
theorem Rk(n:Nat):gV Tryz.prog (SI n):=UG Tryz.call43 (λs n hl h w=>(Tryz.strconv_Atoi s n hl h w).mono λe w' ⟨h1,t,h2⟩=>⟨h1,h2▸tj _ _ _⟩) (λs hl h w hg=>TM s hl h w hg)
def c43(n:Nat):FE Tryz.prog:=libF (Rk n)
def c44(n:Nat):PF Tryz.prog 44 [.i .i64] (.i .i64):=aO Tryz.func44 Tryz.call44 [] [] [] [] (eF n)
theorem pure_seasons_Check(n:Nat):∀a r,eF n a=some r->oP Tryz.prog 44 (argP [.i .i64] a) (encP (.i .i64) r):=λa r h=>(c44 n).ok a r h
def c23(n:Nat):PF Tryz.prog 23 q108 (.tp [.i .i64,.b]):=aO Tryz.func23 Tryz.call23 [c43 n,(c44 n).e] [] [] [] (bJ n)
def c222(_n:Nat):FE Tryz.prog:=libF (Nz Tryz.func222 (by kernel_rfl) (by kernel_rfl) (by kernel_rfl) (by kernel_rfl))
def c179(n:Nat):PF Tryz.prog 179 [.s,.i .u8] (.i .i64):=aO Tryz.func179 Tryz.call179 [c222 n] [] [] [] (dP n)
def c212(n:Nat):PF Tryz.prog 212 [.s,.i .u8] (.i .i64):=aO Tryz.func212 Tryz.call212 [(c179 n).e] [] [] [] (ee n)
def c300(n:Nat):PF Tryz.prog 300 [.i .i32] (.b):=aO Tryz.func300 Tryz.call300 [] [] [] [] (eS n)
def Oz(n:Nat):List (FE Tryz.prog):=[(c212 n).e,(c300 n).e]
def abq(n:Nat):z9:=cw (Oz n) [] 0 (sb z51 0) false ⟨[(175,.p 0 0)],[(0,.iter)],1,0,0,0⟩ [] [⟨.ret,⟨q114,[],1,0,0,0⟩⟩,⟨.exit 9,⟨[],[],1,0,0,0⟩⟩] (eJ n) n
def abd(n:Nat):z9:=cw (Oz n) [] 2 z81 false ⟨q158,[],128,0,0,0⟩ [] [⟨.exit 3,⟨[(8,.i .i64),(9,.i .i64)],[],128,0,0,0⟩⟩] (oS n) n
def Yj(n:Nat):z9:=cw (Oz n) [] 2 z81 false ⟨q158,[],56,0,0,0⟩ [] [⟨.exit 3,⟨[(8,.i .i64),(9,.i .i64)],[],56,0,0,0⟩⟩] (oa n) n
def Z2(n:Nat):z9:=cw (Oz n) [altL (abd n) (Yj n) rfl] 1 (sb z51 1) false ⟨[(0,.s),(7,.s),(8,.i .i64),(9,.i .i64)],[],0,0,0,0⟩ [] [⟨.ret,q154⟩,⟨.exit 1,q165⟩] (eM n) n
def c279(n:Nat):PF Tryz.prog 279 [.s,.i .i32] (.i .i64):=aO Tryz.func279 Tryz.call279 (Oz n) [abq n,Z2 n,noL 3 (sb z51 3)] [] [] (eZ n)
def c239(n:Nat):PF Tryz.prog 239 [.s,.i .i32] (.b):=aO Tryz.func239 Tryz.call239 [(c279 n).e] [] [] [] (eN n)
def c238(n:Nat):FF Tryz.prog 238 [.i .i32,.p 0 0] [.cells [.s]] 1 1 [⟨.b,[],[],false⟩]:=funC Tryz.func238 Tryz.call238 [(c239 n).e] [] [] [] [0] (lI n)
def aa5(n:Nat):List (FE Tryz.prog):=[(c238 n).e]
def abv(n:Nat):LP Tryz.prog Tryz.f278.ntmps:=cw (aa5 n) [] 0 (sb (acM [] [] Tryz.f278) 0) false ⟨[(1,.fn 238 [.p 0 0]),(2,.b),(10,.p 1 0)],[(0,.cells [.s]),(1,.iter)],2,1,1,1⟩ [] [⟨.ret,⟨[(6,.i .i64)],[],2,1,1,1⟩⟩,⟨.exit 0,⟨[],[],2,1,1,1⟩⟩] (dE n) n
def c278(n:Nat):FF Tryz.prog 278 [.s,.fn 238 [.p 0 0],.b] [.cells [.s]] 1 1 [⟨.i .i64,[],[],false⟩]:=funC Tryz.func278 Tryz.call278 (aa5 n) [abv n] [] [] [0] (m9 n)
def c237(n:Nat):FF Tryz.prog 237 [.s,.fn 238 [.p 0 0]] [.cells [.s]] 1 1 [⟨.i .i64,[],[],false⟩]:=funC Tryz.func237 Tryz.call237 [(c278 n).e] [] [] [] [0] (nc n)
def c206(n:Nat):PF Tryz.prog 206 [.s,.s] (.b):=aO Tryz.func206 Tryz.call206 [(c237 n).e] [] [] [] (iE n)
def Zn(n:Nat):LP Tryz.prog Tryz.f241.ntmps:=cw [] [] 0 (sb (acM [] [] Tryz.f241) 0) false ⟨[(0,.s),(1,.i .u8)],[],0,0,0,0⟩ [] [⟨.exit 0,⟨[(0,.s)],[],0,0,0,0⟩⟩] (ej n) n
def c241(n:Nat):PF Tryz.prog 241 [.s,.i .u8] (.s):=aO Tryz.func241 Tryz.call241 [] [Zn n] [] [] (ic n)
def aaU(n:Nat):LP Tryz.prog Tryz.f240.ntmps:=cw [] [] 0 (sb (acM [] [] Tryz.f240) 0) false ⟨[(0,.s),(1,.i .u8)],[],0,0,0,0⟩ [] [⟨.exit 0,⟨[(0,.s)],[],0,0,0,0⟩⟩] (gh n) n
def c240(n:Nat):PF Tryz.prog 240 [.s,.i .u8] (.s):=aO Tryz.func240 Tryz.call240 [] [aaU n] [] [] (iS n)
def c207(n:Nat):PF Tryz.prog 207 [.s,.sk [48]] (.s):=aO Tryz.func207 Tryz.call207 [(c241 n).e,(c240 n).e] [] [] [] (qM n)
def c123(n:Nat):PF Tryz.prog 123 [.s,.sk [88]] (.i .i64):=aO Tryz.func123 Tryz.call123 [(c179 n).e] [noL 0 (sb (acM [] [] Tryz.f123) 0)] [] [] (kA n)
def c75(n:Nat):PF Tryz.prog 75 [.s,.sk [88]] (.i .i64):=aO Tryz.func75 Tryz.call75 [(c123 n).e] [] [] [] (pf n)
def c45(n:Nat):PF Tryz.prog 45 [.s,.sk [88]] (.b):=aO Tryz.func45 Tryz.call45 [(c75 n).e] [] [] [] (jN n)
def c188(n:Nat):PF Tryz.prog 188 q162 (.b):=aO Tryz.func188 Tryz.call188 [(c45 n).e] [] [] [] (dQ n)
noncomputable def Nv(_n:Nat):Ent:=NP 230
theorem MD(n:Nat):gV Tryz.prog (Nv n):=OJ Tryz.call230 λs h v hv w=>(Tryz.strconv_ParseInt_10_at64_ok s h v hv w).mono λe w' ⟨h1,h2⟩=>⟨h1,h2.elim (λh=>h▸RowKit.Below.refl _ _) (λ⟨t,h⟩=>h▸tj _ _ _)⟩
def c230(n:Nat):FE Tryz.prog:=libF (MD n)
def Y1(n:Nat):LP Tryz.prog Tryz.f231.ntmps:=cw [] [] 0 (sb (acM [] [] Tryz.f231) 0) false ⟨[(4,.i .i64),(9,.i .i64),(10,.i .i64)],[],0,0,0,0⟩ [] [⟨.exit 0,q154⟩] (mq n) n
def c231(n:Nat):PF Tryz.prog 231 [.i .i64] (.tp [.i .i64,.i .i64]):=aO Tryz.func231 Tryz.call231 [] [Y1 n] [] [] (rA n)
def c275(n:Nat):PF Tryz.prog 275 [.i .i64] (.i .u64):=aO Tryz.func275 Tryz.call275 [] [] [] [] (wz n)
def c274(n:Nat):PF Tryz.prog 274 [.i .u64,.i .u64] (.tp [.i .u64,.i .u64]):=aO Tryz.func274 Tryz.call274 [] [] [] [] (mD n)
def c276(n:Nat):PF Tryz.prog 276 [.i .u64,.b] (.tp [.i .i64,.i .i64]):=aO Tryz.func276 Tryz.call276 [] [] [] [] (vu n)
def c232(n:Nat):PF Tryz.prog 232 [.i .i64,.i .i64] (.tp [.i .i64,.i .i64]):=aO Tryz.func232 Tryz.call232 [(c275 n).e,(c274 n).e,(c276 n).e] [] [] [] (yT n)
def c193(n:Nat):PF Tryz.prog 193 q162 (.tp [.i .i64,.i .i64]):=aO Tryz.func193 Tryz.call193 [c230 n,(c231 n).e,(c232 n).e] [] [] [] (fc n)
def c208(n:Nat):PF Tryz.prog 208 q162 (.b):=aO Tryz.func208 Tryz.call208 [(c206 n).e,(c193 n).e] [] [] [] (br n)
def c160(n:Nat):PF Tryz.prog 160 q162 (.i .i64):=aO Tryz.func160 Tryz.call160 [(c206 n).e,(c207 n).e,(c188 n).e,(c208 n).e] [] [] [] (di n)
theorem pure_yearforms_Check(n:Nat):∀a r,di n a.1 a.2.1 a.2.2.1 a.2.2.2.1 a.2.2.2.2=some r->oP Tryz.prog 160 (argP q162 a) (encP (.i .i64) r):=λa r h=>(c160 n).ok a r h
def c146(n:Nat):PF Tryz.prog 146 q162 (.tp [.i .i64,.i .i64]):=aO Tryz.func146 Tryz.call146 [(c160 n).e,(c188 n).e,(c193 n).e] [] [] [] (fq n)
noncomputable def C6(l:List V):Option (Int):=match l with
 | [.i .i64 a0]=>some a0
 | _=>none
noncomputable def O5(n:Nat):Ent:=Gh 224 C6 (λa=>gv n a) (λr=>.tp [.i .i64 r.1,.i .i64 r.2.1,.i .i64 r.2.2])
theorem Nr(n:Nat):gV Tryz.prog (O5 n):=wy (arg:=λa=>[.i .i64 a]) Tryz.call224 (λl a h=>by
 unfold C6 at h
 split at h
 ·cases h;rfl
 ·cases h) (λa=>rfl) (λa r h=>vT n (λx r h=>pure_seasons_Check n x r h) a r h)
def c224(n:Nat):FE Tryz.prog:=libF (Nr n)
def c233(n:Nat):PF Tryz.prog 233 [.i .i64] (.i .i64):=aO Tryz.func233 Tryz.call233 [] [] [] [] (kG n)
def c228(n:Nat):PF Tryz.prog 228 [.i .i64,.i .i64] (.i .i64):=aO Tryz.func228 Tryz.call228 [(c233 n).e] [] [] [] (mb n)
def c295(n:Nat):PF Tryz.prog 295 [.i .i64,.i .i64] (.tp [.i .i64,.i .i64]):=aO Tryz.func295 Tryz.call295 [] [] [] [] (KB n)
def c266(n:Nat):PF Tryz.prog 266 [.i .i64,.i .i64] (.tp [.i .i64,.i .i64]):=aO Tryz.func266 Tryz.call266 [(c295 n).e] [] [] [] (nH n)
theorem pure_ints_Div(n:Nat):∀a r,nH n a.1 a.2=some r->oP Tryz.prog 266 (argP [.i .i64,.i .i64] a) (encP (.tp [.i .i64,.i .i64]) r):=λa r h=>(c266 n).ok a r h
noncomputable def B7(l:List V):Option (Int):=match l with
 | [.i .i64 a0]=>some a0
 | _=>none
noncomputable def QW(n:Nat):Ent:=Gh 277 B7 (λa=>gA n a) (λr=>.i .i64 r)
theorem Nj(n:Nat):gV Tryz.prog (QW n):=wy (arg:=λa=>[.i .i64 a]) Tryz.call277 (λl a h=>by
 unfold B7 at h
 split at h
 ·cases h;rfl
 ·cases h) (λa=>rfl) (λa r h=>xJ n (λx y r h=>pure_ints_Div n (x,y) r h) a r h)
def c277(n:Nat):FE Tryz.prog:=libF (Nj n)
def c234(n:Nat):PF Tryz.prog 234 [.i .i64] (.i .i64):=aO Tryz.func234 Tryz.call234 [c277 n] [] [] [] (nq n)
def c196(n:Nat):PF Tryz.prog 196 [.i .i64] (.tp [.i .i64,.i .i64]):=aO Tryz.func196 Tryz.call196 [(c233 n).e,(c234 n).e] [] [] [] (nz n)
def c273(n:Nat):PF Tryz.prog 273 [.i .i64] (.tp [.b,.i .i64]):=aO Tryz.func273 Tryz.call273 [(c233 n).e,c277 n] [] [] [] (lX n)
theorem pure_years_Leap(n:Nat):∀a r,lX n a=some r->oP Tryz.prog 273 (argP [.i .i64] a) (encP (.tp [.b,.i .i64]) r):=λa r h=>(c273 n).ok a r h
noncomputable def BJ(l:List V):Option (Int×Int):=match l with
 | [.i .i64 a0,.i .i64 a1]=>some (a0,a1)
 | _=>none
noncomputable def OG(n:Nat):Ent:=Gh 229 BJ (λa=>fj n a.1 a.2) (λr=>.i .i64 r)
theorem M9(n:Nat):gV Tryz.prog (OG n):=wy (arg:=λa=>[.i .i64 a.1,.i .i64 a.2]) Tryz.call229 (λl a h=>by
 unfold BJ at h
 split at h
 ·cases h;rfl
 ·cases h) (λa=>rfl) (λa r h=>wG n (λx r h=>pure_years_Leap n x r h) a.1 a.2 r h)
def c229(n:Nat):FE Tryz.prog:=libF (M9 n)
def ZO(n:Nat):List (FE Tryz.prog):=[(c228 n).e,(c196 n).e,c229 n]
def ZQ(n:Nat):LP Tryz.prog Tryz.f200.ntmps:=cw (ZO n) [] 0 (sb (acM [] [] Tryz.f200) 0) false ⟨[(0,.i .i64),(7,.i .i64),(22,.i .i64),(23,.i .i64)],[],0,0,0,0⟩ [] [⟨.exit 0,⟨[(7,.i .i64)],[],0,0,0,0⟩⟩] (ca n) n
def c200(n:Nat):PF Tryz.prog 200 [.i .i64,.i .i64] (.tp [.i .i64,.i .i64]):=aO Tryz.func200 Tryz.call200 (ZO n) [ZQ n] [] [] (gy n)
noncomputable def Dj(l:List V):Option (Int×Int):=match l with
 | [.i .i64 a0,.i .i64 a1]=>some (a0,a1)
 | _=>none
noncomputable def OZ(n:Nat):Ent:=Gh 265 Dj (λa=>uE n a.1 a.2) (λr=>.tp [.i .i64 r.1,.i .i64 r.2])
theorem Nn(n:Nat):gV Tryz.prog (OZ n):=wy (arg:=λa=>[.i .i64 a.1,.i .i64 a.2]) Tryz.call265 (λl a h=>by
 unfold Dj at h
 split at h
 ·cases h;rfl
 ·cases h) (λa=>rfl) (λa r h=>Fq n a.1 a.2 r h)
def c265(n:Nat):FE Tryz.prog:=libF (Nn n)
def c267(n:Nat):PF Tryz.prog 267 [.i .i64,.i .i64] (.tp [.i .i64,.i .i64]):=aO Tryz.func267 Tryz.call267 [] [] [] [] (yX n)
def c225(n:Nat):PF Tryz.prog 225 [.i .i64,.i .i64,.i .i64] (.tp [.i .i64,.i .i64,.i .i64]):=aO Tryz.func225 Tryz.call225 [(c228 n).e,c265 n,(c266 n).e,(c267 n).e,(c233 n).e] [] [] [] (rq n)
def c201(n:Nat):PF Tryz.prog 201 [.i .i64,.i .i64] (.tp [.i .i64,.i .i64]):=aO Tryz.func201 Tryz.call201 [(c200 n).e,c229 n] [] [] [] (jh n)
def c189(n:Nat):PF Tryz.prog 189 [.i .i64,.i .i64] (.tp [.ag q85,.i .i64]):=aO Tryz.func189 Tryz.call189 [c224 n,(c200 n).e,(c225 n).e,(c201 n).e] [] [] [] (jH n)
def c136(n:Nat):PF Tryz.prog 136 q108 (.b):=aO Tryz.func136 Tryz.call136 [(c160 n).e,(c23 n).e,(c188 n).e,(c146 n).e,(c189 n).e] [] [] [] (gP n)
def aaQ(n:Nat):LP Tryz.prog Tryz.f137.ntmps:=cw [] [] 0 (sb (acM [] [] Tryz.f137) 0) false q170 [] [⟨.ret,⟨[(4,.b)],[],0,0,0,0⟩⟩,⟨.exit 0,q165⟩] (dX n) n
def c137(n:Nat):PF Tryz.prog 137 q37 (.b):=aO Tryz.func137 Tryz.call137 [] [aaQ n] [] [] (dS n)
def abQ(n:Nat):LP Tryz.prog Tryz.f24.ntmps:=cw [] [] 0 (sb (acM [] [] Tryz.f24) 0) false ⟨[(3,.i .i64),(10,.ag [.s,.s]),(11,.i .i64)],[],1,0,0,0⟩ [] [⟨.exit 0,⟨[(3,.i .i64)],[],1,0,0,0⟩⟩] (cL n) n
def c24(n:Nat):PF Tryz.prog 24 q108 (.i .i64):=aO Tryz.func24 Tryz.call24 [] [abQ n] [] [] (bz n)
def c165(n:Nat):PF Tryz.prog 165 [.i .u8] (.i .i64):=aO Tryz.func165 Tryz.call165 [] [] [] [] (dY n)
def aai(n:Nat):List (FE Tryz.prog):=[(c165 n).e]
def YX(n:Nat):LP Tryz.prog Tryz.f138.ntmps:=cw (aai n) [] 0 (sb (acM [] [] Tryz.f138) 0) false ⟨[(1,.i .i64),(13,.ai .u8 3),(14,.i .i64)],[],1,0,0,0⟩ [] q157 (dF n) n
def c138(n:Nat):PF Tryz.prog 138 q143 (.i .i64):=aO Tryz.func138 Tryz.call138 (aai n) [YX n] [] [] (cE n)
def c89(n:Nat):PF Tryz.prog 89 q108 (.i .i64):=aO Tryz.func89 Tryz.call89 [(c23 n).e,(c136 n).e,(c137 n).e,(c24 n).e,(c138 n).e] [] [] [] (kn n)
def c190(n:Nat):PF Tryz.prog 190 q37 (.b):=aO Tryz.func190 Tryz.call190 [] [] [] [] (mj n)
def aaa(n:Nat):List (FE Tryz.prog):=[(c190 n).e]
def YE(n:Nat):LP Tryz.prog Tryz.f139.ntmps:=cw (aaa n) [] 0 (sb (acM [] [] Tryz.f139) 0) false ⟨[(0,.s),(5,.ws 0),(7,.i .i64),(8,.i .i64)],q102,1,0,0,0⟩ [.nilT 5 0 [.i .i64]] [⟨.exit 0,⟨[(5,.ws 0)],q102,1,0,0,0⟩⟩] (gZ n) n
def c139(n:Nat):FF Tryz.prog 139 q37 [] 0 0 [⟨.ws 0,q102,[0],false⟩]:=funC Tryz.func139 Tryz.call139 (aaa n) [YE n] [] [] [] (gf n)
def c90(n:Nat):FF Tryz.prog 90 q108 [] 0 0 [⟨.ag q49,[(0,.rows [.i .i64]),(1,.rows [.i .i64])],[0,1],false⟩]:=funC Tryz.func90 Tryz.call90 [(c23 n).e,(c139 n).e] [] [] [] [] (sA n)
def c140(n:Nat):FF Tryz.prog 140 [.ws 0] q127 1 1 [⟨.ws 1,[(1,.rows [.i .i64])],[1],false⟩]:=funC Tryz.func140 Tryz.call140 [] [] [] [] [0] (la n)
def aau(n:Nat):LP Tryz.prog Tryz.f141.ntmps:=cw [] [] 0 (sb (acM [] [] Tryz.f141) 0) false ⟨[(0,.ws 0),(2,.i .i64),(3,.i .i64)],q102,1,1,0,1⟩ [] [⟨.exit 0,⟨[],q102,1,1,0,1⟩⟩] (lD n) n
def c141(n:Nat):FF Tryz.prog 141 [.ws 0] q127 0 1 [⟨.tp [],q102,[],false⟩]:=funC Tryz.func141 Tryz.call141 [] [aau n] [] [] [0] (jZ n)
def aa0(n:Nat):LP Tryz.prog Tryz.f268.ntmps:=cw [] [] 0 (sb (acM [] [] Tryz.f268) 0) false ⟨[(0,.s),(9,.p 0 0)],[(0,.iter)],1,0,0,0⟩ [] [⟨.ret,q139⟩,⟨.exit 0,⟨[(0,.s)],[],1,0,0,0⟩⟩] (jW n) n
def c268(n:Nat):PF Tryz.prog 268 [.s] (.i .i64):=aO Tryz.func268 Tryz.call268 [] [aa0 n] [] [] (lV n)
def abj(n:Nat):LP Tryz.prog Tryz.f296.ntmps:=cw [] [] 0 (sb (acM [] [] Tryz.f296) 0) false ⟨[(1,.i .u8),(5,.i .i64),(9,.ws 0),(10,.i .i64),(11,.i .i64)],[(0,.rows [.i .u8])],1,0,0,0⟩ [] [⟨.exit 0,⟨[(5,.i .i64)],[],1,0,0,0⟩⟩] (ji n) n
def c296(n:Nat):PF Tryz.prog 296 [.s,.i .u8] (.i .i64):=aO Tryz.func296 Tryz.call296 [] [abj n] [] [] (oh n)
def c269(n:Nat):PF Tryz.prog 269 [.s] (.tp [.i .i64,.i .i64]):=aO Tryz.func269 Tryz.call269 [(c268 n).e,(c296 n).e] [] [] [] (sC n)
def c297(n:Nat):PF Tryz.prog 297 [.i .i64] (.i .i64):=aO Tryz.func297 Tryz.call297 [(c231 n).e] [] [] [] (sw n)
def c270(n:Nat):PF Tryz.prog 270 q37 (.b):=aO Tryz.func270 Tryz.call270 [(c297 n).e] [] [] [] (od n)
def Zs(n:Nat):LP Tryz.prog Tryz.f298.ntmps:=cw [] [] 0 (sb (acM [] [] Tryz.f298) 0) false ⟨[(1,.i .i64),(4,.p 0 0),(5,.i .i64)],[(0,.ints .u8 18)],1,0,0,0⟩ [] [⟨.exit 0,⟨[(4,.p 0 0)],[(0,.ints .u8 18)],1,0,0,0⟩⟩] (jX n) n
def c298(n:Nat):PF Tryz.prog 298 q37 (.ai .u8 18):=aO Tryz.func298 Tryz.call298 [] [Zs n] [] [] (nj n)
def c299(n:Nat):PF Tryz.prog 299 [.s,.ai .u8 18] (.i .i64):=aO Tryz.func299 Tryz.call299 [(c296 n).e] [] [] [] (iv n)
def To(n:Nat):List (FE Tryz.prog):=[(c298 n).e,(c299 n).e]
def Zb(n:Nat):zs:=cw (To n) [] 0 (sb z61 0) false q97 [] [⟨.exit 0,q97⟩] (gK n) n
def abG(n:Nat):zs:=cw (To n) [] 1 (sb z61 1) false ⟨[(0,.s),(2,.b),(8,.i .u8),(9,.i .u8),(10,.p 0 0),(11,.p 1 0),(12,.i .i64)],[(0,.ints .u8 18),(1,.ints .u8 18)],74,0,0,0⟩ [] [⟨.ret,⟨[(6,.i .i64),(7,.i .i64)],[],74,0,0,0⟩⟩,⟨.exit 2,⟨[(0,.s),(2,.b),(8,.i .u8),(11,.p 1 0),(12,.i .i64)],[(1,.ints .u8 18)],74,0,0,0⟩⟩] (dk n) n
def abe(n:Nat):zs:=cw (To n) [] 2 (sb z61 2) false ⟨[(0,.s),(8,.i .u8),(11,.p 1 0),(12,.i .i64)],[(1,.ints .u8 18)],74,0,0,0⟩ [] [⟨.exit 5,⟨[(0,.s),(11,.p 1 0)],[(1,.ints .u8 18)],74,0,0,0⟩⟩] (bM n) n
def c271(n:Nat):PF Tryz.prog 271 [.s,.i .i64,.b] (.tp [.i .i64,.i .i64]):=aO Tryz.func271 Tryz.call271 (To n) [Zb n,abG n,abe n] [] [] (ef n)
def c226(n:Nat):PF Tryz.prog 226 q37 (.tp [.i .i64,.i .i64]):=aO Tryz.func226 Tryz.call226 [(c268 n).e,(c269 n).e,(c270 n).e,(c271 n).e] [] [] [] (uH n)
def c272(n:Nat):PF Tryz.prog 272 [.s] (.tp [.i .i64,.i .i64]):=aO Tryz.func272 Tryz.call272 [(c268 n).e,(c296 n).e] [] [] [] (nJ n)
def c227(n:Nat):PF Tryz.prog 227 q37 (.tp [.i .i64,.i .i64]):=aO Tryz.func227 Tryz.call227 [(c268 n).e,(c270 n).e,(c272 n).e,(c271 n).e] [] [] [] (uD n)
def c191(n:Nat):PF Tryz.prog 191 [.s,.i .i64,.b,.i .i64] (.tp [.i .i64,.b]):=aO Tryz.func191 Tryz.call191 [(c226 n).e,(c227 n).e] [] [] [] (gI n)
def c143(n:Nat):FF Tryz.prog 143 [.ag q49,.i .i64,.b] q147 2 2 [⟨.tp [.i .i64,.b],[],[],false⟩]:=funC Tryz.func143 Tryz.call143 [(c188 n).e,(c146 n).e,(c191 n).e] [] [] [] [0,1] (cX n)
def c142(n:Nat):FF Tryz.prog 142 [.i .i64,.i .i64,.p 0 0] [.cells [.b]] 1 1 [⟨.b,[],[],false⟩]:=funC Tryz.func142 Tryz.call142 [] [] [] [] [0] (dC n)
def c192(n:Nat):PF Tryz.prog 192 [.i .i64,.i .i64] (.tp [.i .i64,.i .i64]):=aO Tryz.func192 Tryz.call192 [(c228 n).e,c229 n] [] [] [] (rj n)
def c144(n:Nat):FF Tryz.prog 144 [.ag q49,.i .i64,.i .i64] q147 2 2 [⟨.i .i64,[],[],false⟩]:=funC Tryz.func144 Tryz.call144 [(c192 n).e] [] [] [] [0,1] (fX n)
def c91E(n:Nat):List (FE Tryz.prog):=[(c140 n).e,(c141 n).e,(c143 n).e,(c142 n).e,(c144 n).e]
def adq(n:Nat):z11:=cj (c91E n) [] 1003 (sb z6 1003) false ⟨[(3,.p 2 0),(4,.p 3 0),(5,.p 4 0),(6,.p 5 0),(8,.ik .i64 1),(9,.ws 0),(10,.ws 1),(25,.b)],q90,62,2,2,2⟩ [⟨.nrm,⟨[(3,.p 2 0),(4,.p 3 0),(5,.p 4 0),(6,.p 5 0),(8,.ik .i64 (-1)),(9,.ws 62),(10,.ws 63)],[(0,.rows [.i .i64]),(1,.rows [.i .i64]),(2,.cells q49),(3,.cells [.i .i64,.i .i64,.i .i64]),(4,.cells [.b]),(5,.cells [.ik .i64 0,.ik .i64 0,.ik .i64 0]),(62,.rows [.i .i64]),(63,.rows [.i .i64])],64,2,2,2⟩⟩,⟨.nrm,⟨[(3,.p 2 0),(4,.p 3 0),(5,.p 4 0),(6,.p 5 0),(8,.ik .i64 1),(9,.ws 0),(10,.ws 1)],q90,62,2,2,2⟩⟩] (kl n)
def U9(n:Nat):z11:=cj (c91E n) [] 1020 (sb zd1 1020) false ⟨[(3,.p 2 0),(4,.p 3 0),(5,.p 4 0),(6,.p 5 0),(8,.i .i64),(9,.ws 62),(10,.ws 63),(11,.fn 142 [.p 4 0]),(12,.i .i64),(15,.i .i64),(16,.b),(53,.ws 62),(54,.i .i64),(55,.i .i64)],q18,64,2,2,2⟩ [⟨.nrm,⟨[(3,.p 2 0),(4,.p 3 0),(5,.p 4 0),(6,.p 5 0),(8,.i .i64),(9,.ws 62),(10,.ws 63),(11,.fn 142 [.p 4 0]),(12,.i .i64),(15,.i .i64),(16,.b),(53,.ws 62),(54,.i .i64),(55,.i .i64),(76,.b)],q18,64,2,2,2⟩⟩] (mU n)
def Rq(n:Nat):z11:=cj (c91E n) [] 1020 (sb zd1 1020) false ⟨[(3,.p 2 0),(4,.p 3 0),(5,.p 4 0),(6,.p 5 0),(8,.i .i64),(9,.ws 0),(10,.ws 1),(11,.fn 142 [.p 4 0]),(12,.i .i64),(15,.i .i64),(16,.b),(53,.ws 0),(54,.i .i64),(55,.i .i64)],q22,62,2,2,2⟩ [⟨.nrm,⟨[(3,.p 2 0),(4,.p 3 0),(5,.p 4 0),(6,.p 5 0),(8,.i .i64),(9,.ws 0),(10,.ws 1),(11,.fn 142 [.p 4 0]),(12,.i .i64),(15,.i .i64),(16,.b),(53,.ws 0),(54,.i .i64),(55,.i .i64),(76,.b)],q22,62,2,2,2⟩⟩] (gp n)
def VJ(n:Nat):z11:=cj (c91E n) [] 1023 (sb zd1 1023) false q81 [⟨.nrm,q81⟩] (mT n)
def P2(n:Nat):z11:=cj (c91E n) [] 1023 (sb zd1 1023) false q82 [⟨.nrm,q82⟩] (gq n)
def VC(n:Nat):z11:=cj (c91E n) [] 1030 ze1 false ⟨[(3,.p 2 0),(4,.p 3 0),(5,.p 4 0),(6,.p 5 0),(8,.i .i64),(9,.ws 62),(10,.ws 63),(11,.fn 142 [.p 4 0]),(12,.i .i64),(15,.i .i64),(16,.b),(17,.i .i64),(19,.i .i64),(53,.ws 62),(54,.i .i64),(55,.i .i64),(94,.ws 63),(95,.i .i64),(96,.i .i64)],q18,64,2,2,2⟩ [⟨.nrm,⟨[(3,.p 2 0),(4,.p 3 0),(5,.p 4 0),(6,.p 5 0),(8,.i .i64),(9,.ws 62),(10,.ws 63),(11,.fn 142 [.p 4 0]),(12,.i .i64),(15,.i .i64),(16,.b),(17,.i .i64),(19,.i .i64),(53,.ws 62),(54,.i .i64),(55,.i .i64),(94,.ws 63),(95,.i .i64),(96,.i .i64),(119,.b)],q18,64,2,2,2⟩⟩] (mR n)
def OL(n:Nat):z11:=cj (c91E n) [] 1030 ze1 false ⟨[(3,.p 2 0),(4,.p 3 0),(5,.p 4 0),(6,.p 5 0),(8,.i .i64),(9,.ws 0),(10,.ws 1),(11,.fn 142 [.p 4 0]),(12,.i .i64),(15,.i .i64),(16,.b),(17,.i .i64),(19,.i .i64),(53,.ws 0),(54,.i .i64),(55,.i .i64),(94,.ws 1),(95,.i .i64),(96,.i .i64)],q22,62,2,2,2⟩ [⟨.nrm,⟨[(3,.p 2 0),(4,.p 3 0),(5,.p 4 0),(6,.p 5 0),(8,.i .i64),(9,.ws 0),(10,.ws 1),(11,.fn 142 [.p 4 0]),(12,.i .i64),(15,.i .i64),(16,.b),(17,.i .i64),(19,.i .i64),(53,.ws 0),(54,.i .i64),(55,.i .i64),(94,.ws 1),(95,.i .i64),(96,.i .i64),(119,.b)],q22,62,2,2,2⟩⟩] (jM n)
def ZD(n:Nat):z11:=cw (c91E n) [altL (VC n) (OL n) rfl] 2 (sb zd1 2) false ⟨[(3,.p 2 0),(4,.p 3 0),(5,.p 4 0),(6,.p 5 0),(8,.i .i64),(9,.ws 62),(10,.ws 63),(11,.fn 142 [.p 4 0]),(12,.i .i64),(15,.i .i64),(16,.b),(17,.i .i64),(53,.ws 62),(54,.i .i64),(55,.i .i64),(94,.ws 63),(95,.i .i64),(96,.i .i64)],q18,64,2,2,2⟩ [] [⟨.ret,q163⟩,⟨.exit 4,q48⟩] (nU n) n
def Vu(n:Nat):z11:=cw (c91E n) [altL (VC n) (OL n) rfl] 2 (sb zd1 2) false ⟨[(3,.p 2 0),(4,.p 3 0),(5,.p 4 0),(6,.p 5 0),(8,.i .i64),(9,.ws 0),(10,.ws 1),(11,.fn 142 [.p 4 0]),(12,.i .i64),(15,.i .i64),(16,.b),(17,.i .i64),(53,.ws 0),(54,.i .i64),(55,.i .i64),(94,.ws 1),(95,.i .i64),(96,.i .i64)],q22,62,2,2,2⟩ [] [⟨.ret,q164⟩,⟨.exit 4,q50⟩] (cn n) n
def U4(n:Nat):z11:=cj (c91E n) [altL (U9 n) (Rq n) rfl,altL (VJ n) (P2 n) rfl,altL (ZD n) (Vu n) rfl] 1017 zd1 false q48 [⟨.nrm,q48⟩,⟨.ret,q163⟩] (mS n)
def NL(n:Nat):z11:=cj (c91E n) [altL (U9 n) (Rq n) rfl,altL (VJ n) (P2 n) rfl,altL (ZD n) (Vu n) rfl] 1017 zd1 false q50 [⟨.nrm,q50⟩,⟨.ret,q164⟩] (jx n)
def ZI(n:Nat):z11:=cw (c91E n) [altL (U4 n) (NL n) rfl] 1 z91 false q48 [] [⟨.ret,q163⟩,⟨.exit 2,⟨[(3,.p 2 0),(4,.p 3 0),(5,.p 4 0),(6,.p 5 0),(8,.i .i64),(9,.ws 62),(10,.ws 63),(11,.fn 142 [.p 4 0]),(12,.i .i64)],q18,64,2,2,2⟩⟩] (oi n) n
def Vo(n:Nat):z11:=cw (c91E n) [altL (U4 n) (NL n) rfl] 1 z91 false q50 [] [⟨.ret,q164⟩,⟨.exit 2,⟨[(3,.p 2 0),(4,.p 3 0),(5,.p 4 0),(6,.p 5 0),(8,.i .i64),(9,.ws 0),(10,.ws 1),(11,.fn 142 [.p 4 0]),(12,.i .i64)],q22,62,2,2,2⟩⟩] (cV n) n
def acY(n:Nat):z11:=cw (c91E n) [altL (ZI n) (Vo n) rfl] 0 (sb z6 0) false ⟨[(3,.p 2 0),(4,.p 3 0),(5,.p 4 0),(6,.p 5 0),(8,.i .i64),(9,.ws 62),(10,.ws 63),(11,.fn 142 [.p 4 0]),(12,.i .i64),(13,.b)],q18,64,2,2,2⟩ [] [⟨.ret,q163⟩,⟨.exit 0,⟨[(6,.p 5 0)],q63,64,2,2,2⟩⟩] (n6 n) n
def abn(n:Nat):z11:=cw (c91E n) [altL (ZI n) (Vo n) rfl] 0 (sb z6 0) false ⟨[(3,.p 2 0),(4,.p 3 0),(5,.p 4 0),(6,.p 5 0),(8,.i .i64),(9,.ws 0),(10,.ws 1),(11,.fn 142 [.p 4 0]),(12,.i .i64),(13,.b)],q22,62,2,2,2⟩ [] [⟨.ret,q164⟩,⟨.exit 0,⟨[(6,.p 5 0)],q63,62,2,2,2⟩⟩] (dK n) n
def c91(n:Nat):FF Tryz.prog 91 [.ag q49,.ag [.i .i64,.i .i64,.i .i64],.b] q147 2 2 [⟨.tp [.ag [.i .i64,.i .i64,.i .i64],.b],[],[],false⟩]:=funC Tryz.func91 Tryz.call91 (c91E n) [adq n,altL (acY n) (abn n) rfl] [] [3,17,20,23,30] [0,1] (ki n)
def c64(n:Nat):PF Tryz.prog 64 q108 (.i .i64):=aO Tryz.func64 Tryz.call64 [(c89 n).e,(c90 n).e,(c91 n).e] [] [] [] (bQ n)
def c25(n:Nat):PF Tryz.prog 25 q108 (.b):=aO Tryz.func25 Tryz.call25 [(c45 n).e] [] [] [] (eP n)
def c145(n:Nat):PF Tryz.prog 145 q108 (.b):=aO Tryz.func145 Tryz.call145 [(c25 n).e] [] [] [] (nZ n)
def c92(n:Nat):PF Tryz.prog 92 [.ag q53] (.i .i64):=aO Tryz.func92 Tryz.call92 [(c64 n).e,(c145 n).e] [] [] [] (jm n)
def c147(n:Nat):FF Tryz.prog 147 [] [] 0 0 [⟨.mp 0,[(0,.mp .u8 [(0,194),(1,195),(2,199),(3,202)])],[0],false⟩]:=funC Tryz.func147 Tryz.call147 [] [] [] [] [] (ky n)
def c148(n:Nat):PF Tryz.prog 148 q108 (.i .u8):=aO Tryz.func148 Tryz.call148 [(c23 n).e] [] [] [] (bD n)
def c194(n:Nat):FF Tryz.prog 194 [.i .i64,.ws 0] q127 1 1 [⟨.ag q85,[],[],false⟩]:=funC Tryz.func194 Tryz.call194 [(c189 n).e] [] [] [] [0] (ip n)
def c197(n:Nat):PF Tryz.prog 197 [.i .i64] (.tp [.i .i64,.i .i64]):=aO Tryz.func197 Tryz.call197 [(c233 n).e,(c234 n).e] [] [] [] (wJ n)
def c235(n:Nat):PF Tryz.prog 235 [.i .i64] (.ag [.i .i8,.i .i64]):=aO Tryz.func235 Tryz.call235 [] [] [] [] (Js n)
def c198(n:Nat):PF Tryz.prog 198 [.i .i64,.i .i64] (.ag q85):=aO Tryz.func198 Tryz.call198 [(c235 n).e] [] [] [] (uB n)
def c195(n:Nat):FF Tryz.prog 195 [.i .i64,.ws 0] q127 1 1 [⟨.ag q85,[],[],false⟩]:=funC Tryz.func195 Tryz.call195 [(c196 n).e,(c197 n).e,(c198 n).e] [] [] [] [0] (iz n)
def c199(n:Nat):FF Tryz.prog 199 [.i .i64,.ws 0] q127 1 1 [⟨.ag q85,[],[],false⟩]:=funC Tryz.func199 Tryz.call199 [(c200 n).e,(c201 n).e,(c198 n).e] [] [] [] [0] (iH n)
def c236(n:Nat):PF Tryz.prog 236 [.ag [.i .i64,.i .i64,.i .i64]] (.i .i64):=aO Tryz.func236 Tryz.call236 [(c192 n).e] [] [] [] (tJ n)
def c203(n:Nat):PF Tryz.prog 203 [.ag [.i .i64,.i .i64,.i .i64]] (.tp [.i .i64,.i .i64]):=aO Tryz.func203 Tryz.call203 [(c236 n).e,(c200 n).e] [] [] [] (uC n)
def c202(n:Nat):FF Tryz.prog 202 [.i .i64,.ws 0] q127 1 1 [⟨.ag q85,[],[],false⟩]:=funC Tryz.func202 Tryz.call202 [(c203 n).e,(c198 n).e] [] [] [] [0] (iq n)
def c93(n:Nat):PF Tryz.prog 93 q108 (.tp [.ag q85,.i .i64]):=aO Tryz.func93 Tryz.call93 [(c64 n).e,(c145 n).e,(c146 n).e,c43 n,(c147 n).e,(c148 n).e,(c194 n).e,(c195 n).e,(c199 n).e,(c202 n).e] [] [] [] (io n)
def c204(n:Nat):PF Tryz.prog 204 [.i .i8] (.b):=aO Tryz.func204 Tryz.call204 [] [] [] [] (rc n)
def c150(n:Nat):PF Tryz.prog 150 [.i .i8,.i .i8] (.i .i64):=aO Tryz.func150 Tryz.call150 [(c204 n).e] [] [] [] (oz n)
def c205(n:Nat):PF Tryz.prog 205 [.i .i64] (.b):=aO Tryz.func205 Tryz.call205 [] [] [] [] (mJ n)
def c151(n:Nat):PF Tryz.prog 151 [.i .i64,.i .i64] (.i .i64):=aO Tryz.func151 Tryz.call151 [(c205 n).e] [] [] [] (kN n)
def aaX(n:Nat):LP Tryz.prog Tryz.f149.ntmps:=cw [] [] 0 (sb (acM [] [] Tryz.f149) 0) false ⟨[(3,.i .i64),(6,.ws 0),(7,.i .i64),(8,.i .i64)],q102,1,1,1,1⟩ [] [⟨.ret,⟨[(2,.i .i64)],[],1,1,1,1⟩⟩,⟨.exit 0,⟨[(3,.i .i64)],[],1,1,1,1⟩⟩] (wQ n) n
def c149(n:Nat):FF Tryz.prog 149 [.ws 0] q127 1 1 [⟨.i .i64,[],[],false⟩]:=funC Tryz.func149 Tryz.call149 [] [aaX n] [] [] [0] (ri n)
def c94(n:Nat):PF Tryz.prog 94 [.ag [.i .i8,.i .i64],.ag [.i .i8,.i .i64]] (.i .i64):=aO Tryz.func94 Tryz.call94 [(c150 n).e,(c151 n).e,(c149 n).e] [] [] [] (ma n)
def c65(n:Nat):PF Tryz.prog 65 [.ag q53,.ag q53] (.i .i64):=aO Tryz.func65 Tryz.call65 [(c92 n).e,(c93 n).e,(c94 n).e] [] [0] [] (jG n)
def c152(n:Nat):FF Tryz.prog 152 [.p 0 0] [.cells q25] 1 1 [⟨.b,[],[],false⟩]:=funC Tryz.func152 Tryz.call152 [] [] [] [] [0] (tD n)
def c156(n:Nat):PF Tryz.prog 156 [.ag q33] (.b):=aO Tryz.func156 Tryz.call156 [(c25 n).e] [] [] [] (qe n)
def c157(n:Nat):PF Tryz.prog 157 [.ag q33] (.b):=aO Tryz.func157 Tryz.call157 [(c64 n).e,(c156 n).e,(c148 n).e] [] [] [] (nr n)
def c154(n:Nat):PF Tryz.prog 154 [.ag q33,.ag q33] (.b):=aO Tryz.func154 Tryz.call154 [(c157 n).e,(c148 n).e,(c93 n).e,(c94 n).e] [] [] [] (pC n)
def c153(n:Nat):FF Tryz.prog 153 [.p 0 0] [.cells q25] 1 1 [⟨.b,[],[],false⟩]:=funC Tryz.func153 Tryz.call153 [(c154 n).e] [] [] [] [0] (uy n)
def c155(n:Nat):FF Tryz.prog 155 q150 [.cells [.i .u8],.cells q25] 2 2 [⟨.b,[],[],false⟩]:=funC Tryz.func155 Tryz.call155 [(c156 n).e] [] [] [] [0,1] (ui n)
def c95(n:Nat):FF Tryz.prog 95 [.sl 0 0 3 (some (.k 3))] [.cells [.i .i64,.fn 152 [.p 1 0],.i .i64,.fn 153 [.p 1 0],.i .i64,.fn 155 [.p 2 0,.p 1 0]],.cells q25,.cells [.i .u8]] 3 3 [⟨.i .i64,[],[],false⟩]:=funC Tryz.func95 Tryz.call95 [(c152 n).e,(c153 n).e,(c155 n).e] [] [0] [] [0,1,2] (fm n)
def c96(n:Nat):PF Tryz.prog 96 [.ag q25,.i .u8] (.i .i64):=aO Tryz.func96 Tryz.call96 [(c64 n).e,(c95 n).e] [] [] [] (gX n)
def c97(n:Nat):FF Tryz.prog 97 q150 [.cells q25,.cells q57,.rows q11] 3 3 [⟨.b,[],[],false⟩]:=funC Tryz.func97 Tryz.call97 [(c96 n).e] [] [] [] [0,1,2] (sN n)
def c99(n:Nat):PF Tryz.prog 99 [.ag q25] (.b):=aO Tryz.func99 Tryz.call99 [(c157 n).e] [] [] [] (qA n)
def c98(n:Nat):FF Tryz.prog 98 [.p 0 0,.p 1 0,.p 2 0] [.cells q27,.cells [.i .i64],.cells q25,.rows q11] 4 4 [⟨.b,[],[],false⟩]:=funC Tryz.func98 Tryz.call98 [(c99 n).e] [] [] [] [0,1,2,3] (sU n)
def c100(n:Nat):FF Tryz.prog 100 [.p 0 0,.p 1 0,.p 2 0,.p 3 0] [.cells q20,.cells [.i .i64],.cells [.i .i64],.cells q25,.rows q11] 5 5 [⟨.b,[],[],false⟩]:=funC Tryz.func100 Tryz.call100 [(c99 n).e] [] [] [] [0,1,2,3,4] (sS n)
def c101(n:Nat):FF Tryz.prog 101 q150 [.cells q57,.cells [.i .i64],.rows q11] 3 3 [⟨.b,[],[],false⟩]:=funC Tryz.func101 Tryz.call101 [] [] [] [] [0,1,2] (sL n)
def abM(n:Nat):FF Tryz.prog 95 [.sl 0 0 4 (some (.k 4))] [.cells q91,.cells q25,.cells q30,.cells [.i .i64],.cells [.i .i64],.rows q11] 6 6 [⟨.i .i64,[],[],false⟩]:=funC Tryz.func95 Tryz.call95 [(c97 n).e,(c98 n).e,(c100 n).e,(c101 n).e] [] [0] [] [0,1,2,3,4,5] (iG n)
def c66E(n:Nat):List (FE Tryz.prog):=[(c96 n).e,(abM n).e]
def ac3(n:Nat):LP Tryz.prog Tryz.f66.ntmps:=cw (c66E n) [] 0 (sb (acM [] [] Tryz.f66) 0) true ⟨[(1,.p 1 0),(4,.p 2 0),(13,.ws 0),(14,.i .i64),(15,.i .i64)],[(0,.rows q11),(1,.cells q12),(2,.cells [.i .i64])],3,1,1,1⟩ [] q92 (gz n) n
def c66(n:Nat):FF Tryz.prog 66 q135 q96 1 1 [⟨.tp [.i .i64,.i .i64],[],[],false⟩]:=funC Tryz.func66 Tryz.call66 (c66E n) [ac3 n] [] [] [0] (nD n)
def c39(n:Nat):FF Tryz.prog 39 q135 q96 1 1 [⟨.tp [.i .i64,.i .i64],[],[],false⟩]:=funC Tryz.func39 Tryz.call39 [(c63 n).e,(c64 n).e,(c65 n).e,(c66 n).e] [] [] [] [0] (ny n)
def c18(n:Nat):FF Tryz.prog 18 q135 q96 1 1 [⟨.i .i64,[],[],false⟩]:=funC Tryz.func18 Tryz.call18 [(c39 n).e] [] [] [] [0] (jn n)
def c40(n:Nat):FF Tryz.prog 40 [] [] 0 0 [⟨.mp 0,[(0,.mp .u8 [(1,67),(2,69),(3,70),(4,70)])],[0],false⟩]:=funC Tryz.func40 Tryz.call40 [] [] [] [] [] (ou n)
def aaG(n:Nat):LP Tryz.prog Tryz.f158.ntmps:=cw [] [] 0 (sb (acM [] [] Tryz.f158) 0) false q131 [] [⟨.exit 0,⟨[(3,.i .u8)],[],1,1,1,1⟩⟩] (lg n) n
def c158(n:Nat):FF Tryz.prog 158 [.sl 0 0 .q (some .q)] [.ints .u8 3] 1 1 [⟨.it 9 (.s),[],[],true⟩,⟨.i .u8,[],[],false⟩]:=funC Tryz.func158 Tryz.call158 [] [aaG n] [] [] [0] (mW n)
def aay(n:Nat):LP Tryz.prog Tryz.f159.ntmps:=cw [] [] 0 (sb (acM [] [] Tryz.f159) 0) false q131 [] [⟨.exit 0,⟨[(3,.i .u8)],[],1,1,1,1⟩⟩] (lB n) n
def c159(n:Nat):FF Tryz.prog 159 [.sl 0 0 .q (some .q)] [.ints .u8 3] 1 1 [⟨.it 9 (.s),[],[],true⟩,⟨.i .u8,[],[],false⟩]:=funC Tryz.func159 Tryz.call159 [] [aay n] [] [] [0] (mY n)
def c102(n:Nat):PF Tryz.prog 102 q143 (.tp q156):=aO Tryz.func102 Tryz.call102 [(c138 n).e,(c158 n).e,(c159 n).e] [] [] [] (m6 n)
end
end Go.Sh
