import Derived.Test.YtibehcmomiplnaaGreatDoorCeRa
import Derived.Test.YtibehcmomiplnaaGreatDoorYText
set_option linter.unusedVariables false
set_option linter.unusedSimpArgs false
set_option maxRecDepth 100000
set_option maxHeartbeats 4000000
namespace Go.Sh
open Go.Abs Go.Proofs
noncomputable section
abbrev q117:List (Nat×PB):=[(0,.rows q11),(1,.cells q15),(2,.rows [.s])]
abbrev q118:List (Nat×PB):=[(0,.rows q11),(1,.cells q20),(2,.rows [.s])]
abbrev q78:List Lf:=[.bo,.bo,.s,.i .i64,.i .i64,.s,.s,.i .u8,.i .u8,.i .u8]
abbrev q48:List (Nat×PB):=[(0,.ints .u8 3),(1,.ints .u8 3),(2,.ints .u8 3),(3,.ints .u8 3)]
abbrev q87:PSt:=⟨[(2,.i .i64),(3,.p 0 0),(4,.p 1 0),(6,.p 2 0),(7,.p 3 0),(8,.i .u8)],q48,4,0,0,0⟩
abbrev q53:List (Nat×PB):=[(0,.cells q29),(1,.ints .u8 3),(2,.ints .u8 3)]
abbrev q95:PSt:=⟨[(1,.i .u8),(2,.p 0 0),(5,.i .i64),(6,.p 1 0),(7,.p 2 0)],q53,3,0,0,0⟩
noncomputable def PZ(n:Nat):Ent:=MB 87 (cM n)
theorem N4(n:Nat):fQ Tryz.prog (PZ n):=OR Tryz.call87 (LQ n) (Qm n)
def c87(n:Nat):FE Tryz.prog:=libF (N4 n)
def c88(n:Nat):PF Tryz.prog 88 [.i .u8] (.tp q30):=aO Tryz.func88 Tryz.call88 [(c130 n).e,(c131 n).e] [] [] [] (qj n)
noncomputable def QK(_n:Nat):Ent:=UB 89
theorem NJ(n:Nat):fQ Tryz.prog (QK n):=Re Tryz.call89 Tryz.strings_Join_none Tryz.strings_Join
def c89(n:Nat):FE Tryz.prog:=libF (NJ n)
def c63E(n:Nat):List (FE Tryz.prog):=[(c84 n).e,(c85 n).e,(c86 n).e,(c87 n),(c88 n).e,(c89 n)]
def YB(n:Nat):LP Tryz.prog Tryz.f63.ntmps:=cE (c63E n) [] 0 (sb (acM [] [] Tryz.f63) 0) false ⟨[(6,.p 1 0),(7,.p 2 0),(11,.ws 3),(48,.rs 1 4 0 .q none),(49,.i .i64),(50,.i .i64)],[(1,.ints .u8 3),(2,.ints .u8 3),(3,.rows [.s]),(4,.rows [.s])],5,0,0,0⟩ [] [⟨.exit 0,⟨[(11,.ws 3)],[(3,.rows [.s])],5,0,0,0⟩⟩] (aW n) n
def c63(n:Nat):PF Tryz.prog 63 q79 (.tp q30):=aO Tryz.func63 Tryz.call63 (c63E n) [YB n] [] [] (cQ n)
def c62(n:Nat):FF Tryz.prog 62 q102 q69 1 1 [⟨.tp q30,[],[],false⟩]:=funC Tryz.func62 Tryz.call62 [(c63 n).e] [] [] [] [0] (jp n)
def c90(n:Nat):PF Tryz.prog 90 [.ag q37] (.tp q30):=aO Tryz.func90 Tryz.call90 [(c80 n).e,(c63 n).e] [] [] [] (jC n)
def c64(n:Nat):FF Tryz.prog 64 q102 q69 1 1 [⟨.tp q30,[],[],false⟩]:=funC Tryz.func64 Tryz.call64 [(c90 n).e] [] [] [] [0] (io n)
def c91(n:Nat):PF Tryz.prog 91 [.ag q24] (.tp q30):=aO Tryz.func91 Tryz.call91 [(c114 n).e,(c63 n).e] [] [] [] (gO n)
def c65E(n:Nat):List (FE Tryz.prog):=[(c40 n).e,(c91 n).e,(c72 n).e,(c89 n)]
def Zz(n:Nat):LP Tryz.prog Tryz.f65.ntmps:=cE (c65E n) [] 0 (sb (acM [] [] Tryz.f65) 0) true ⟨[(1,.p 1 0),(5,.ws 2),(28,.ws 0),(29,.i .i64),(30,.i .i64)],q117,3,1,1,1⟩ [] [⟨.exit 0,⟨[(1,.p 1 0),(5,.ws 2)],q117,3,1,1,1⟩⟩] (ct n) n
def c65(n:Nat):FF Tryz.prog 65 q102 q69 1 1 [⟨.tp q30,[],[],false⟩]:=funC Tryz.func65 Tryz.call65 (c65E n) [Zz n] [] [] [0] (mb n)
def c26(n:Nat):FF Tryz.prog 26 q102 q69 1 1 [⟨.tp q30,[],[],false⟩]:=funC Tryz.func26 Tryz.call26 [(c40 n).e,(c41 n).e,(c62 n).e,(c64 n).e,(c65 n).e] [] [] [] [0] (fU n)
def Wa(n:Nat):FF Tryz.prog 40 [.ag q20] q69 1 1 [⟨.i .i64,[],[],false⟩]:=funC Tryz.func40 Tryz.call40 [(c61 n).e] [] [] [] [0] (jR n)
def YT(n:Nat):FF Tryz.prog 62 [.ag q20] q69 1 1 [⟨.tp q30,[],[],false⟩]:=funC Tryz.func62 Tryz.call62 [(c63 n).e] [] [] [] [0] (jZ n)
def Zj(n:Nat):FF Tryz.prog 64 [.ag q20] q69 1 1 [⟨.tp q30,[],[],false⟩]:=funC Tryz.func64 Tryz.call64 [(c90 n).e] [] [] [] [0] (kQ n)
def SB(n:Nat):List (FE Tryz.prog):=[(Wa n).e,(c91 n).e,(c72 n).e,(c89 n)]
def Vm(n:Nat):LP Tryz.prog Tryz.f65.ntmps:=cE (SB n) [] 0 (sb (acM [] [] Tryz.f65) 0) true ⟨[(1,.p 1 0),(5,.ws 2),(28,.rs 21 0 0 .q (some .q)),(29,.i .i64),(30,.i .i64)],q118,3,1,1,1⟩ [] [⟨.exit 0,⟨[(1,.p 1 0),(5,.ws 2)],q118,3,1,1,1⟩⟩] (fZ n) n
def Yn(n:Nat):FF Tryz.prog 65 [.ag q20] q69 1 1 [⟨.tp q30,[],[],false⟩]:=funC Tryz.func65 Tryz.call65 (SB n) [Vm n] [] [] [0] (na n)
def ZB(n:Nat):FF Tryz.prog 26 [.ag q20] q69 1 1 [⟨.tp q30,[],[],false⟩]:=funC Tryz.func26 Tryz.call26 [(Wa n).e,(c41 n).e,(YT n).e,(Zj n).e,(Yn n).e] [] [] [] [0] (jO n)
def c11(n:Nat):PF Tryz.prog 11 [.s] (.tp [.s,.i .i64,.i .i64]):=aO Tryz.func11 Tryz.call11 [(c25 n).e,altF (c26 n).e ((ZB n).e) (Eq.trans (b:=26) rfl rfl)] [] [] [] (bz n)
def c6(n:Nat):PF Tryz.prog 6 [.s,.s] (.b):=aO Tryz.func6 Tryz.call6 [(c11 n).e] [] [] [] (dR n)
def c7l0(n:Nat):LP Tryz.prog Tryz.f7.ntmps:=cE [] [] 0 (sb (acM [] [] Tryz.f7) 0) true ⟨[(2,.p 2 0),(3,.p 3 0),(5,.i .i64)],[(0,.rows q11),(1,.rows q11),(2,.cells q15),(3,.cells q40)],4,2,2,2⟩ [] [⟨.ret,⟨q83,[],2,2,2,2⟩⟩,⟨.exit 0,⟨[],[],2,2,2,2⟩⟩] (fb n) n
def c7(n:Nat):FF Tryz.prog 7 [.ag q15,.ag q40] [.rows q11,.rows q11] 2 2 [⟨.i .i64,[],[],false⟩]:=funC Tryz.func7 Tryz.call7 [] [c7l0 n] [] [] [0,1] (fW n)
def c8l0(n:Nat):LP Tryz.prog Tryz.f8.ntmps:=cE [] [] 0 (sb (acM [] [] Tryz.f8) 0) true ⟨[(1,.p 1 0),(3,.ws 2),(4,.i .i64)],[(0,.rows q11),(1,.cells q15),(2,.rows q78)],3,1,1,1⟩ [] [⟨.exit 0,⟨[(3,.ws 1)],[(1,.rows q78)],2,1,1,1⟩⟩] (az n) n
def c8(n:Nat):FF Tryz.prog 8 q102 q69 1 1 [⟨.ws 1,[(1,.rows q78)],[1],false⟩]:=funC Tryz.func8 Tryz.call8 [] [c8l0 n] [] [] [0] (kJ n)
def c9E(n:Nat):List (FE Tryz.prog):=[(c11 n).e,(c6 n).e]
def c9l0(n:Nat):LP Tryz.prog Tryz.f9.ntmps:=cE (c9E n) [] 0 (sb (acM [] [] Tryz.f9) 0) true ⟨[(1,.ws 0),(2,.ws 1),(3,.i .i64)],[(0,.rows [.s]),(1,.rows [.s])],2,0,0,0⟩ [] [⟨.ret,⟨[(0,.b)],[],0,0,0,0⟩⟩,⟨.exit 0,⟨[],[],0,0,0,0⟩⟩] (oK n) n
def c9(n:Nat):PF Tryz.prog 9 [] (.b):=aO Tryz.func9 Tryz.call9 (c9E n) [c9l0 n] [] [] (jf n)
def c37(n:Nat):PF Tryz.prog 37 [.i .u8,.i .u8] (.i .i64):=aO Tryz.func37 Tryz.call37 [] [] [] [] (jl n)
def c23E(n:Nat):List (FE Tryz.prog):=[(c37 n).e]
def Y3(n:Nat):LP Tryz.prog Tryz.f23.ntmps:=cE (c23E n) [] 2 (sb (sb (sb (acM [] [] Tryz.f23) 0).body 1).body 2) false ⟨[(2,.i .i64),(3,.p 0 0),(4,.p 1 0),(6,.p 2 0),(7,.p 3 0),(8,.i .u8),(9,.i .i64),(10,.i .i64),(11,.i .i64)],q48,4,0,0,0⟩ [] [⟨.exit 4,⟨[(2,.i .i64),(3,.p 0 0),(4,.p 1 0),(6,.p 2 0),(7,.p 3 0),(8,.i .u8),(9,.i .i64),(10,.i .i64)],q48,4,0,0,0⟩⟩] (co n) n
def Yk(n:Nat):LP Tryz.prog Tryz.f23.ntmps:=cE (c23E n) [Y3 n] 1 (sb (sb (acM [] [] Tryz.f23) 0).body 1) false ⟨[(2,.i .i64),(3,.p 0 0),(4,.p 1 0),(6,.p 2 0),(7,.p 3 0),(8,.i .u8),(9,.i .i64)],q48,4,0,0,0⟩ [] [⟨.exit 2,q87⟩] (bD n) n
def Yr(n:Nat):LP Tryz.prog Tryz.f23.ntmps:=cE (c23E n) [Yk n] 0 (sb (acM [] [] Tryz.f23) 0) false q87 [] [⟨.exit 0,⟨[(6,.p 2 0),(7,.p 3 0)],[(2,.ints .u8 3),(3,.ints .u8 3)],4,0,0,0⟩⟩] (db n) n
def c23(n:Nat):PF Tryz.prog 23 q103 (.ai .u8 3):=aO Tryz.func23 Tryz.call23 (c23E n) [Yr n] [] [] (eO n)
def c10E(n:Nat):List (FE Tryz.prog):=[(c21 n).e,(c22 n).e,(c23 n).e,(c24 n).e]
def Y9(n:Nat):LP Tryz.prog Tryz.f10.ntmps:=cE (c10E n) [] 0 (sb (acM [] [] Tryz.f10) 0) true ⟨[(1,.i .u8),(2,.p 0 0),(5,.i .i64),(6,.p 1 0),(7,.p 2 0),(8,.i .i64)],q53,3,0,0,0⟩ [] [⟨.exit 0,q95⟩] (dE n) n
def Zw(n:Nat):LP Tryz.prog Tryz.f10.ntmps:=cE (c10E n) [] 2 (sb (sb (acM [] [] Tryz.f10) 1).body 2) true ⟨[(1,.i .u8),(2,.p 0 0),(5,.i .i64),(6,.p 1 0),(7,.p 2 0),(9,.i .i64),(10,.i .u8),(11,.i .i64)],q53,3,0,0,0⟩ [] [⟨.exit 4,⟨[(1,.i .u8),(2,.p 0 0),(5,.i .i64),(6,.p 1 0),(7,.p 2 0),(9,.i .i64),(10,.i .u8)],q53,3,0,0,0⟩⟩] (dG n) n
def YY(n:Nat):LP Tryz.prog Tryz.f10.ntmps:=cE (c10E n) [Zw n] 1 (sb (acM [] [] Tryz.f10) 1) true ⟨[(1,.i .u8),(2,.p 0 0),(5,.i .i64),(6,.p 1 0),(7,.p 2 0),(9,.i .i64)],q53,3,0,0,0⟩ [] [⟨.exit 2,q95⟩] (eK n) n
def YM(n:Nat):LP Tryz.prog Tryz.f10.ntmps:=cE (c10E n) [] 3 (sb (acM [] [] Tryz.f10) 3) true ⟨[(1,.i .u8),(5,.i .i64),(6,.p 0 0),(7,.p 1 0),(12,.ws 2),(13,.s),(14,.i .i64)],[(0,.ints .u8 3),(1,.ints .u8 3),(2,.rows [.s])],3,0,0,0⟩ [] [⟨.exit 6,⟨[(13,.s)],[],0,0,0,0⟩⟩] (eM n) n
def c10(n:Nat):PF Tryz.prog 10 [.ag q29,.i .u8] (.s):=aO Tryz.func10 Tryz.call10 (c10E n) [Y9 n,YY n,YM n] [] [] (kF n)
def c3(n:Nat):FF Tryz.prog 3 [.ag q81,.ag [.i .u8,.ws 1,.i .u8,.i .u8,.i .u8],.i .u8] [.rows q12,.rows q12] 2 2 [⟨.b,[],[],false⟩]:=funC Tryz.func3 Tryz.call3 [(c4 n).e,(c5 n).e,(c6 n).e,(c7 n).e,(c8 n).e,(c9 n).e,(c10 n).e,(c11 n).e] [] [] [] [0,1] (il n)
end
end Go.Sh
