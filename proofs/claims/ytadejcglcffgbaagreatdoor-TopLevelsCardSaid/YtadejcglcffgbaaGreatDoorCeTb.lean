import Derived.Test.YtadejcglcffgbaaGreatDoorCeTa
import Derived.Test.YtadejcglcffgbaaGreatDoorPShape
set_option linter.unusedVariables false
set_option linter.unusedSimpArgs false
set_option maxRecDepth 100000
set_option maxHeartbeats 4000000
namespace Go.Sh
open Go.Abs Go.Proofs
noncomputable section
abbrev q25:List PV:=[.p 2 0,.i .u8,.bd,.b,.s,.i .i64,.i .i64,.s,.s,.i .u8,.i .u8,.i .u8,.i .u8,.bd,.b,.s,.i .i64,.i .i64,.s,.s,.i .u8,.i .u8,.i .u8,.i .u8,.bd,.b,.s,.i .i64,.i .i64,.s,.s,.i .u8,.i .u8,.i .u8,.ws 0,.b,.b,.i .i64]
abbrev q68:List (Nat×PB):=[(1,.cells q25),(2,.cells q29)]
abbrev q61:List PV:=[.pn,.i .u8,.bd,.b,.s,.i .i64,.i .i64,.s,.s,.i .u8,.i .u8,.i .u8,.i .u8,.bd,.b,.s,.i .i64,.i .i64,.s,.s,.i .u8,.i .u8,.i .u8,.i .u8,.bd,.b,.s,.i .i64,.i .i64,.s,.s,.i .u8,.i .u8,.i .u8,.ws 0,.b,.b,.i .i64]
abbrev q47:List (Nat×PB):=[(1,.cells [.p 2 0,.i .u8,.bd,.b,.s,.i .i64,.i .i64,.s,.s,.i .u8,.i .u8,.i .u8,.i .u8,.bd,.b,.s,.i .i64,.i .i64,.s,.s,.i .u8,.i .u8,.i .u8,.i .u8,.bd,.b,.s,.i .i64,.i .i64,.s,.s,.i .u8,.i .u8,.i .u8,.rs 21 3 0 .q (some .q),.b,.b,.i .i64]),(2,.cells q29),(3,.rows q11)]
abbrev q49:List (Nat×PB):=[(1,.cells [.p 2 0,.i .u8,.bd,.b,.s,.i .i64,.i .i64,.s,.s,.i .u8,.i .u8,.i .u8,.i .u8,.bd,.b,.s,.i .i64,.i .i64,.s,.s,.i .u8,.i .u8,.i .u8,.i .u8,.bd,.b,.s,.i .i64,.i .i64,.s,.s,.i .u8,.i .u8,.i .u8,.ws 3,.b,.b,.i .i64]),(2,.cells q29),(3,.rows q11)]
abbrev q65:List PV:=[.i .u8,.bd,.b,.s,.i .i64,.i .i64,.s,.s,.i .u8,.i .u8,.i .u8,.i .u8,.bd,.b,.s,.i .i64,.i .i64,.s,.s,.i .u8,.i .u8,.i .u8,.i .u8,.bd,.b,.s,.i .i64,.i .i64,.s,.s,.i .u8,.i .u8,.i .u8,.ws 2,.b,.b]
abbrev q123:List (Nat×PB):=[(0,.rows q11),(1,.cells q16),(2,.rows [.s])]
abbrev q103:List (Nat×PB):=[(1,.cells [.i .i64])]
abbrev q30:List Lf:=[.bo,.bo,.s,.i .i64,.i .i64,.s,.s,.i .u8,.i .u8,.i .u8]
abbrev q114:List PX:=[⟨.exit 3,⟨[(3,.ws 1)],[(1,.rows q30)],2,1,1,1⟩⟩]
abbrev q112:List (Nat×PB):=[(1,.cells [.i .i64]),(2,.cells q31),(3,.rows q30)]
abbrev q55:PSt:=⟨[(5,.p 1 0),(6,.fn 29 [.p 1 0]),(8,.p 2 0),(9,.i .i64),(10,.b),(11,.i .i64),(12,.b),(13,.i .i64),(49,.rs 10 3 0 .q (some .q)),(50,.i .i64),(51,.i .i64)],q112,4,1,1,1⟩
abbrev q63:List PX:=[⟨.exit 2,⟨[(5,.p 1 0),(6,.fn 29 [.p 1 0]),(8,.p 2 0),(9,.i .i64),(10,.b),(12,.b),(49,.rs 10 3 0 .q (some .q)),(50,.i .i64),(51,.i .i64)],q112,4,1,1,1⟩⟩]
abbrev q72:PSt:=⟨[(5,.p 1 0),(6,.fn 29 [.p 1 0]),(49,.rs 10 2 0 .q (some .q)),(50,.i .i64),(51,.i .i64)],[(1,.cells [.i .i64]),(2,.rows q30)],3,1,1,1⟩
abbrev q104:List PX:=[⟨.ret,⟨[(4,.b)],[],2,2,2,2⟩⟩,⟨.exit 0,⟨[],[],2,2,2,2⟩⟩]
abbrev q105:List PB:=[.rows q11,.rows q11]
abbrev q37:List (Nat×PB):=[(1,.rows [.i .i64]),(2,.rows [.i .i64]),(3,.cells [.b,.b,.s,.i .i64,.i .i64,.s,.s,.i .u8,.i .u8,.i .u8,.ws 1,.ws 2])]
abbrev q86:PSt:=⟨[(5,.p 3 0),(8,.i .i64),(9,.i .i64),(63,.ws 1),(64,.i .i64),(65,.i .i64)],q37,4,0,0,0⟩
def MK(_n:Nat):Ent:=Nu 163
theorem Js(n:Nat):fC Tryz.prog (MK n):=Pj Tryz.call163 PL
def c163(n:Nat):FE Tryz.prog:=libF (Js n)
def Q2(n:Nat):LP Tryz.prog Tryz.f226.ntmps:=cA [] [] 0 (sb (acM [] [] Tryz.f226) 0) false ⟨[(0,.ws 0),(1,.s),(7,.i .i64),(8,.i .i64)],[(0,.rows [.s])],1,1,1,1⟩ [] q110 (bv n) n
def Yc(n:Nat):FF Tryz.prog 226 [.ws 0,.s] [.rows [.s]] 1 1 [⟨.i .i64,[],[],false⟩]:=funC Tryz.func226 Tryz.call226 [] [Q2 n] [] [] [0] (fc n)
def c162(n:Nat):FF Tryz.prog 162 [.ws 0,.s] [.rows [.s]] 1 1 [⟨.b,[],[],false⟩]:=funC Tryz.func162 Tryz.call162 [(Yc n).e] [] [] [] [0] (dq n)
def KW(_n:Nat):Ent:=SU 164
theorem JG(n:Nat):fC Tryz.prog (KW n):=OX Tryz.call164 λs c w h1 h2 h3 h4=>Tryz.strings_ContainsAny_laid s c w h1 h2 h3 h4
def c164(n:Nat):FE Tryz.prog:=libF (JG n)
def WS(n:Nat):PF Tryz.prog 224 [.s,.sk [89]] (.b):=aM Tryz.func224 Tryz.call224 [] [] [] [] (fp n)
def YF(n:Nat):PF Tryz.prog 159 [.s,.sk [89]] (.b):=aM Tryz.func159 Tryz.call159 [(WS n).e] [] [] [] (da n)
def c116(n:Nat):PF Tryz.prog 116 [.s,.ag q31] (.i .i64):=aM Tryz.func116 Tryz.call116 [(c30 n).e,(c160 n),(c161 n).e,(c32 n).e,(c163 n),(c162 n).e,(c164 n),(YF n).e] [] [] [] (lY n)
def c63(n:Nat):FF Tryz.prog 63 [.p 1 0] [.rows q11,.cells q25,.cells q29] 1 3 [⟨.it 123 (.ag [.i .i64,.i .i64]),q68,[],true⟩,⟨.tp [.ag q31,.i .i64],q68,[],false⟩]:=funC Tryz.func63 Tryz.call63 [(c110 n).e,(c114 n).e,(c116 n).e,(X8 n).e] [] [] [] [1,2,0] (dB n)
def c64(n:Nat):FF Tryz.prog 64 [.p 0 0,.ag q31,.i .i64] [.cells [.p 1 0,.i .u8,.bd,.b,.s,.i .i64,.i .i64,.s,.s,.i .u8,.i .u8,.i .u8,.i .u8,.bd,.b,.s,.i .i64,.i .i64,.s,.s,.i .u8,.i .u8,.i .u8,.i .u8,.bd,.b,.s,.i .i64,.i .i64,.s,.s,.i .u8,.i .u8,.i .u8,.ws 2,.b,.b,.i .i64],.cells q29,.rows q11] 3 3 [⟨.it 123 (.ag [.i .i64,.i .i64]),[],[],true⟩,⟨.ag q28,[],[],false⟩]:=funC Tryz.func64 Tryz.call64 [(c117 n).e,(c112 n).e] [] [] [] [0,1,2] (cY n)
def c61(n:Nat):FF Tryz.prog 61 [.p 1 0] [.rows q11,.cells q25,.cells q29] 1 3 [⟨.tp [],q68,[],false⟩,⟨.it 123 (.ag [.i .i64,.i .i64]),q68,[],true⟩]:=funC Tryz.func61 Tryz.call61 [(c57 n).e,(X8 n).e,(c60 n).e,(c63 n).e,(c64 n).e,(c105 n).e,(c112 n).e] [] [] [] [1,2,0] (fO n)
def c27(n:Nat):FF Tryz.prog 27 [.p 1 0,.p 2 0] [.rows q11,.cells q61,.cells q29] 1 3 [⟨.it 123 (.ag [.i .i64,.i .i64]),q68,[],true⟩,⟨.tp [],q47,[3],false⟩,⟨.tp [],q68,[],false⟩,⟨.tp [],q49,[3],false⟩]:=funC Tryz.func27 Tryz.call27 [(c57 n).e,(c58 n).e,(c59 n).e,(c60 n).e,(c61 n).e,(c62 n).e,(c63 n).e,(c64 n).e] [] [] [] [1,2,0] (iw n)
def c26(n:Nat):FF Tryz.prog 26 [.s,.fn 1000027 [.p 1 0]] [.rows q11,.cells q61] 1 2 [⟨.tp [.i .i64,.i .i64],q68,[2],false⟩,⟨.tp [.i .i64,.i .i64],q47,[2,3],false⟩,⟨.tp [.i .i64,.i .i64],q49,[2,3],false⟩]:=funD ⟨(acM [] [] Tryz.f26),2,3,0,9,56,5⟩ Tryz.func26 Tryz.call26 Tryz.func56 Tryz.call56 [(c27 n).e] [] [] [] [1,0] (eH n) (by kernel_rfl) (by kernel_rfl) (by kernel_rfl) (by kernel_rfl)
def c7(n:Nat):FF Tryz.prog 7 [.s] [] 0 0 [⟨.tp [.ag q16,.i .i64,.i .i64,.i .i64],[(0,.rows q11)],[0],false⟩,⟨.tp [.ag q15,.i .i64,.i .i64,.i .i64],[(0,.rows q11)],[0],false⟩]:=funC Tryz.func7 Tryz.call7 [(c26 n).e] [] [] [] [] (gq n)
def Yw(n:Nat):FF Tryz.prog 104 q101 q66 1 1 [⟨.b,[],[],false⟩]:=funC Tryz.func104 Tryz.call104 [] [] [] [] [0] (mE n)
def WX(n:Nat):FF Tryz.prog 152 q102 [.cells q24,.cells q65,.rows q11] 3 3 [⟨.b,[],[],false⟩]:=funC Tryz.func152 Tryz.call152 [(c151 n).e] [] [] [] [0,1,2] (qx n)
def Xo(n:Nat):FF Tryz.prog 153 [.p 0 0,.p 1 0,.p 2 0] [.cells q22,.cells [.i .i64],.cells q24,.rows q11] 4 4 [⟨.b,[],[],false⟩]:=funC Tryz.func153 Tryz.call153 [(c154 n).e] [] [] [] [0,1,2,3] (qD n)
def Xf(n:Nat):FF Tryz.prog 155 [.p 0 0,.p 1 0,.p 2 0,.p 3 0] [.cells q19,.cells [.i .i64],.cells [.i .i64],.cells q24,.rows q11] 5 5 [⟨.b,[],[],false⟩]:=funC Tryz.func155 Tryz.call155 [(c154 n).e] [] [] [] [0,1,2,3,4] (qK n)
def WM(n:Nat):FF Tryz.prog 156 q102 [.cells q65,.cells [.i .i64],.rows q11] 3 3 [⟨.b,[],[],false⟩]:=funC Tryz.func156 Tryz.call156 [] [] [] [] [0,1,2] (qB n)
def W9(n:Nat):FF Tryz.prog 150 [.sl 0 0 4 (some (.k 4))] [.cells q70,.cells q24,.cells q27,.cells [.i .i64],.cells [.i .i64],.rows q11] 6 6 [⟨.i .i64,[],[],false⟩]:=funC Tryz.func150 Tryz.call150 [(WX n).e,(Xo n).e,(Xf n).e,(WM n).e] [] [0] [] [0,1,2,3,4,5] (gF n)
def N3(n:Nat):List (FE Tryz.prog):=[(c151 n).e,(W9 n).e]
def QW(n:Nat):LP Tryz.prog Tryz.f106.ntmps:=cA (N3 n) [] 0 (sb (acM [] [] Tryz.f106) 0) true ⟨[(1,.p 1 0),(4,.p 2 0),(13,.ws 0),(14,.i .i64),(15,.i .i64)],[(0,.rows q11),(1,.cells q16),(2,.cells [.i .i64])],3,1,1,1⟩ [] q95 (fK n) n
def WH(n:Nat):FF Tryz.prog 106 q101 q66 1 1 [⟨.tp [.i .i64,.i .i64],[],[],false⟩]:=funC Tryz.func106 Tryz.call106 (N3 n) [QW n] [] [] [0] (lT n)
def Za(n:Nat):FF Tryz.prog 52 q101 q66 1 1 [⟨.tp [.i .i64,.i .i64],[],[],false⟩]:=funC Tryz.func52 Tryz.call52 [(Yw n).e,(c14 n).e,(c105 n).e,(WH n).e] [] [] [] [0] (lR n)
def P8(n:Nat):FF Tryz.prog 22 q101 q66 1 1 [⟨.i .i64,[],[],false⟩]:=funC Tryz.func22 Tryz.call22 [(Za n).e] [] [] [] [0] (fU n)
def ZH(n:Nat):FF Tryz.prog 53 q101 q66 1 1 [⟨.tp q29,[],[],false⟩]:=funC Tryz.func53 Tryz.call53 [(c13 n).e] [] [] [] [0] (jg n)
def ZQ(n:Nat):FF Tryz.prog 54 q101 q66 1 1 [⟨.tp q29,[],[],false⟩]:=funC Tryz.func54 Tryz.call54 [(c107 n).e] [] [] [] [0] (il n)
def RU(n:Nat):List (FE Tryz.prog):=[(P8 n).e,(c108 n).e,(c109 n).e,(c39 n)]
def UO(n:Nat):LP Tryz.prog Tryz.f55.ntmps:=cA (RU n) [] 0 (sb (acM [] [] Tryz.f55) 0) true ⟨[(1,.p 1 0),(5,.ws 2),(28,.ws 0),(29,.i .i64),(30,.i .i64)],q123,3,1,1,1⟩ [] [⟨.exit 0,⟨[(1,.p 1 0),(5,.ws 2)],q123,3,1,1,1⟩⟩] (cw n) n
def ZI(n:Nat):FF Tryz.prog 55 q101 q66 1 1 [⟨.tp q29,[],[],false⟩]:=funC Tryz.func55 Tryz.call55 (RU n) [UO n] [] [] [0] (lZ n)
def c5_1(n:Nat):FF Tryz.prog 5 q101 q66 1 1 [⟨.tp q29,[],[],false⟩]:=funC Tryz.func5 Tryz.call5 [(P8 n).e,(c23 n).e,(ZH n).e,(ZQ n).e,(ZI n).e] [] [] [] [0] (dV n)
def c28(n:Nat):PF Tryz.prog 28 [.s] (.tp [.i .i64,.i .i64,.i .i64]):=aM Tryz.func28 Tryz.call28 [(c7 n).e] [] [] [] (jC n)
def c8(n:Nat):FF Tryz.prog 8 q101 q66 1 1 [⟨.tp [.i .i64,.i .i64],[],[],false⟩]:=funC Tryz.func8 Tryz.call8 [(P8 n).e,(c5_1 n).e,(c28 n).e] [] [] [] [0] (jm n)
def YS(n:Nat):LP Tryz.prog Tryz.f29.ntmps:=cA [] [] 0 (sb (acM [] [] Tryz.f29) 0) true ⟨[(1,.p 1 0),(5,.ws 0),(6,.i .i64),(7,.i .i64)],[(0,.rows [.i .i64,.bo]),(1,.cells [.i .i64])],2,2,1,2⟩ [] [⟨.exit 0,⟨[],q103,2,2,1,2⟩⟩] (dX n) n
def c29(n:Nat):FF Tryz.prog 29 [.ws 0,.p 1 0] [.rows [.i .i64,.bo],.cells [.i .i64]] 1 2 [⟨.tp [],q103,[],false⟩]:=funC Tryz.func29 Tryz.call29 [] [YS n] [] [] [0,1] (ay n)
def c34(n:Nat):FF Tryz.prog 34 [.ws 0] [.rows q30] 1 1 [⟨.rs 10 0 0 .q (some .q),[],[],false⟩]:=funC Tryz.func34 Tryz.call34 [] [] [] [] [0] (aw n)
def c12E(n:Nat):List (FE Tryz.prog):=[(c34 n).e]
def ZC(n:Nat):LP Tryz.prog Tryz.f12.ntmps:=cA (c12E n) [] 1 (sb (acM [0] [] Tryz.f12) 1) true ⟨[(3,.ws 1),(40,.ws 0),(41,.i .i64),(42,.i .i64)],[(0,.rows q11),(1,.rows q30)],2,1,1,1⟩ [] q114 (eO n) n
def c12(n:Nat):FF Tryz.prog 12 q101 q66 1 1 [⟨.rs 10 1 0 .q (some .q),[(1,.rows q30)],[1],false⟩]:=funC Tryz.func12 Tryz.call12 (c12E n) [ZC n] [0] [] [0] (dD n)
def c9E(n:Nat):List (FE Tryz.prog):=[(P8 n).e,(c29 n).e,(c12 n).e,(c30 n).e,(c31 n).e,(c32 n).e]
def c9l1(n:Nat):LP Tryz.prog Tryz.f9.ntmps:=cA (c9E n) [] 1 (sb (sb (acM [] [] Tryz.f9) 0).body 1) true q55 [] q63 (bV n) n
def c9l0(n:Nat):LP Tryz.prog Tryz.f9.ntmps:=cA (c9E n) [c9l1 n] 0 (sb (acM [] [] Tryz.f9) 0) true q72 [] [⟨.exit 0,⟨[(5,.p 1 0)],q103,2,1,1,1⟩⟩] (bi n) n
def c9(n:Nat):FF Tryz.prog 9 q101 q66 1 1 [⟨.tp [.i .i64,.i .i64],[],[],false⟩]:=funC Tryz.func9 Tryz.call9 (c9E n) [c9l0 n] [] [] [0] (cN n)
def ZD(n:Nat):LP Tryz.prog Tryz.f33.ntmps:=cA [] [] 0 (sb (acM [] [] Tryz.f33) 0) false ⟨[(0,.ws 0),(1,.ws 1),(12,.i .i64),(13,.i .i64)],[(0,.rows q11),(1,.rows q11)],2,2,2,2⟩ [] q104 (aT n) n
def c33(n:Nat):FF Tryz.prog 33 [.ws 0,.ws 1] q105 2 2 [⟨.b,[],[],false⟩]:=funC Tryz.func33 Tryz.call33 [] [ZD n] [] [] [0,1] (dc n)
def c10(n:Nat):FF Tryz.prog 10 [.ag q16,.ag q42] q105 2 2 [⟨.b,[],[],false⟩]:=funC Tryz.func10 Tryz.call10 [(c33 n).e] [] [] [] [0,1] (sD n)
def c11(n:Nat):PF Tryz.prog 11 q29 (.b):=aM Tryz.func11 Tryz.call11 [(c28 n).e] [] [] [] (dS n)
def c87(n:Nat):PF Tryz.prog 87 q80 (.i .i64):=aM Tryz.func87 Tryz.call87 [(c14 n).e] [] [] [] (sY n)
def c192(_n:Nat):FE Tryz.prog:=libF (NU Tryz.func192 (by kernel_rfl) (by kernel_rfl) (by kernel_rfl) (by kernel_rfl))
def c133(n:Nat):PF Tryz.prog 133 [.s,.sk [88]] (.i .i64):=aM Tryz.func133 Tryz.call133 [(c192 n)] [noL 0 (sb (acM [] [] Tryz.f133) 0)] [] [] (uG n)
def c89(n:Nat):PF Tryz.prog 89 [.s] (.tp [.i .i64,.i .i64]):=aM Tryz.func89 Tryz.call89 [(c131 n).e,(c133 n).e,(c132 n).e] [] [] [] (xq n)
def c42E(n:Nat):List (FE Tryz.prog):=[(c87 n).e,(c40 n).e,(c88 n).e,(c89 n).e,(c85 n).e,(c86 n).e]
def Zv(n:Nat):LP Tryz.prog Tryz.f42.ntmps:=cA (c42E n) [] 2 (sb (sb (sb (acM [] [] Tryz.f42) 0).body 1).body 2) false ⟨[(5,.p 3 0),(8,.i .i64),(9,.i .i64),(13,.i .i64),(63,.ws 1),(64,.i .i64),(65,.i .i64),(74,.ws 2),(75,.i .i64),(76,.i .i64)],q37,4,0,0,0⟩ [] [⟨.exit 4,q86⟩] (pM n) n
def YZ(n:Nat):LP Tryz.prog Tryz.f42.ntmps:=cA (c42E n) [Zv n] 1 (sb (sb (acM [] [] Tryz.f42) 0).body 1) false q86 [] [⟨.exit 2,⟨[(5,.p 3 0),(8,.i .i64),(9,.i .i64)],q37,4,0,0,0⟩⟩] (pC n) n
def ZG(n:Nat):LP Tryz.prog Tryz.f42.ntmps:=cA (c42E n) [YZ n] 0 (sb (acM [] [] Tryz.f42) 0) false ⟨[(5,.p 3 0),(8,.i .i64),(9,.i .i64),(10,.b)],q37,4,0,0,0⟩ [] [⟨.exit 0,⟨[(8,.i .i64)],[],4,0,0,0⟩⟩] (jK n) n
def c42(n:Nat):PF Tryz.prog 42 q80 (.tp [.i .i64,.i .i64]):=aM Tryz.func42 Tryz.call42 (c42E n) [ZG n] [] [] (jR n)
def S4(n:Nat):List (FE Tryz.prog):=[(c34 n).e]
def TA(n:Nat):LP Tryz.prog Tryz.f12.ntmps:=cA (S4 n) [] 1 (sb (acM [0] [] Tryz.f12) 1) true ⟨[(3,.ws 1),(40,.rs 21 0 0 .q (some .q)),(41,.i .i64),(42,.i .i64)],[(0,.rows q11),(1,.rows q30)],2,1,1,1⟩ [] q114 (iR n) n
def YD(n:Nat):FF Tryz.prog 12 q106 q66 1 1 [⟨.rs 10 1 0 .q (some .q),[(1,.rows q30)],[1],false⟩]:=funC Tryz.func12 Tryz.call12 (S4 n) [TA n] [0] [] [0] (dR n)
def UL(n:Nat):List (FE Tryz.prog):=[(c22 n).e,(c29 n).e,(YD n).e,(c30 n).e,(c31 n).e,(c32 n).e]
def Xb(n:Nat):LP Tryz.prog Tryz.f9.ntmps:=cA (UL n) [] 1 (sb (sb (acM [] [] Tryz.f9) 0).body 1) true q55 [] q63 (jQ n) n
def XY(n:Nat):LP Tryz.prog Tryz.f9.ntmps:=cA (UL n) [Xb n] 0 (sb (acM [] [] Tryz.f9) 0) true q72 [] [⟨.exit 0,⟨[(5,.p 1 0)],q103,2,1,1,1⟩⟩] (bO n) n
def c9_1(n:Nat):FF Tryz.prog 9 q106 q66 1 1 [⟨.tp [.i .i64,.i .i64],[],[],false⟩]:=funC Tryz.func9 Tryz.call9 (UL n) [XY n] [] [] [0] (fN n)
def c15(n:Nat):PF Tryz.prog 15 [] (.b):=aM Tryz.func15 Tryz.call15 [(c7 n).e,altF (c5_1 n).e ((c5 n).e) (zZ (b:=5) rfl rfl),altF (c9 n).e ((c9_1 n).e) (zZ (b:=9) rfl rfl),altF (c12 n).e ((YD n).e) (zZ (b:=12) rfl rfl),(c42 n).e,(c43 n).e] [] [] [] (kR n)
def c8_1(n:Nat):FF Tryz.prog 8 q106 q66 1 1 [⟨.tp [.i .i64,.i .i64],[],[],false⟩]:=funC Tryz.func8 Tryz.call8 [(c22 n).e,(c5 n).e,(c28 n).e] [] [] [] [0] (mf n)
def VF(n:Nat):LP Tryz.prog Tryz.f33.ntmps:=cA [] [] 0 (sb (acM [] [] Tryz.f33) 0) false ⟨[(0,.rs 21 0 0 .q (some .q)),(1,.ws 1),(12,.i .i64),(13,.i .i64)],[(0,.rows q11),(1,.rows q11)],2,2,2,2⟩ [] q104 (aP n) n
def ZK(n:Nat):FF Tryz.prog 33 [.rs 21 0 0 .q (some .q),.ws 1] q105 2 2 [⟨.b,[],[],false⟩]:=funC Tryz.func33 Tryz.call33 [] [VF n] [] [] [0,1] (ct n)
def YO(n:Nat):FF Tryz.prog 10 [.ag q15,.ag q42] q105 2 2 [⟨.b,[],[],false⟩]:=funC Tryz.func10 Tryz.call10 [(ZK n).e] [] [] [] [0,1] (ng n)
def c3E(n:Nat):List (FE Tryz.prog):=[(c4 n).e,(c6 n).e,(c5 n).e,(c7 n).e,altF (c8 n).e ((c8_1 n).e) (zZ (b:=8) rfl rfl),altF (c9 n).e ((c9_1 n).e) (zZ (b:=9) rfl rfl),altF (c10 n).e ((YO n).e) (zZ (b:=10) rfl rfl),(c11 n).e,(c12 n).e,(c13 n).e,(c14 n).e,(c15 n).e]
def c3l0(n:Nat):LP Tryz.prog Tryz.f3.ntmps:=cA (c3E n) [] 0 (sb (acM [] [] Tryz.f3) 0) true ⟨[(7,.i .i64),(16,.rs 10 1 0 .q (some .q)),(17,.i .i64)],[(1,.rows q30)],2,1,1,1⟩ [] [⟨.ret,⟨[(2,.b)],[],1,1,1,1⟩⟩,⟨.exit 0,⟨[],[],1,1,1,1⟩⟩] (cG n) n
def c3(n:Nat):FF Tryz.prog 3 [.ag q83] [.rows q12] 1 1 [⟨.b,[],[],false⟩]:=funC Tryz.func3 Tryz.call3 (c3E n) [c3l0 n] [] [] [0] (ln n)
end
end Go.Sh
