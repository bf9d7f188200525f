import Derived.Test.YtibehcmomiplnabGreatDoorYText
set_option linter.unusedSimpArgs false
set_option linter.unusedVariables false
set_option linter.defProp false
set_option maxRecDepth 100000
set_option maxHeartbeats 4000000
namespace Go.Sh
open Go.Abs Go.Proofs
noncomputable section
abbrev zf1:=LP Tryz.prog Tryz.f111.ntmps
abbrev zg1:=acM [] [3,16,17] Tryz.f111
abbrev q171:List (Nat×PB):=[(0,.rows q11),(1,.cells q12),(2,.rows [.s])]
abbrev q110:List PB:=[.cells q37]
abbrev q73:List (Nat×PB):=[(0,.cells q37)]
abbrev q159:List PX:=[⟨.ret,⟨q114,[],1,1,1,1⟩⟩,⟨.exit 0,⟨[],[],1,1,1,1⟩⟩]
abbrev q145:List (Nat×PB):=[(1,.cells q37)]
abbrev q129:List PB:=[.cells [.fn 253 [.p 1 0]],.cells [.fn 1000252 [.p 3 0]],.cells q24,.cells q37]
abbrev q119:List (Nat×PB):=[(2,.cells q24),(3,.cells q37)]
abbrev q36:List PV:=[.i .u8,.bd,.b,.s,.i .i64,.i .i64,.s,.s,.i .u8,.i .u8,.i .u8,.i .u8,.bd,.b,.s,.i .i64,.i .i64,.s,.s,.i .u8,.i .u8,.i .u8,.i .u8,.bd,.b,.s,.i .i64,.i .i64,.s,.s,.i .u8,.i .u8,.i .u8,.rs 21 0 0 .q (some .q),.b,.b]
abbrev q78:List PV:=[.i .u8,.bd,.b,.s,.i .i64,.i .i64,.s,.s,.i .u8,.i .u8,.i .u8,.i .u8,.bd,.b,.s,.i .i64,.i .i64,.s,.s,.i .u8,.i .u8,.i .u8,.i .u8,.bd,.b,.s,.i .i64,.i .i64,.s,.s,.i .u8,.i .u8,.i .u8,.rs 21 2 0 .q (some .q),.b,.b]
abbrev q136:List (Nat×PV):=[(0,.p 0 0),(2,.p 1 0),(3,.p 2 0),(5,.s),(6,.ws 3),(7,.p 4 0),(9,.i .i64)]
abbrev q32:List PV:=[.i .u8,.bk false,.bk false,.sk [],.ik .i64 0,.ik .i64 0,.sk [],.sk [],.ik .u8 0,.ik .u8 0,.ik .u8 0,.ik .u8 0,.bk false,.bk false,.sk [],.ik .i64 0,.ik .i64 0,.sk [],.sk [],.ik .u8 0,.ik .u8 0,.ik .u8 0,.ik .u8 0,.bk false,.bk false,.sk [],.ik .i64 0,.ik .i64 0,.sk [],.sk [],.ik .u8 0,.ik .u8 0,.ik .u8 0,.ws 6,.b,.bk false]
abbrev q89:List PV:=[.bd,.b,.s,.i .i64,.i .i64,.s,.s,.i .u8,.i .u8,.i .u8,.bk false,.bk false,.bk false,.sk [],.ik .i64 0,.ik .i64 0,.sk [],.sk [],.ik .u8 0,.ik .u8 0,.ik .u8 0]
abbrev q47:List (Nat×PB):=[(0,.cells q37),(1,.cells q21),(2,.cells q32),(3,.rows [.i .i64]),(4,.cells q89),(5,.rows q11),(6,.rows q11)]
abbrev q113:PSt:=⟨[(0,.p 0 0),(2,.p 1 0),(3,.p 2 0),(5,.s),(6,.ws 3),(7,.p 4 0),(9,.i .i64),(49,.b)],q47,7,1,0,1⟩
abbrev q160:List (Nat×PV):=[(0,.p 0 0),(2,.p 1 0),(3,.p 2 0),(5,.s),(6,.ws 3)]
abbrev q61:List PV:=[.i .u8,.bk false,.bk false,.sk [],.ik .i64 0,.ik .i64 0,.sk [],.sk [],.ik .u8 0,.ik .u8 0,.ik .u8 0,.ik .u8 0,.bk false,.bk false,.sk [],.ik .i64 0,.ik .i64 0,.sk [],.sk [],.ik .u8 0,.ik .u8 0,.ik .u8 0,.ik .u8 0,.bk false,.bk false,.sk [],.ik .i64 0,.ik .i64 0,.sk [],.sk [],.ik .u8 0,.ik .u8 0,.ik .u8 0,.ws 5,.b,.bk false]
abbrev q74:List PV:=[.p 0 0,.i .u8,.bd,.b,.s,.i .i64,.i .i64,.s,.s,.i .u8,.i .u8,.i .u8,.i .u8,.bd,.b,.s,.i .i64,.i .i64,.s,.s,.i .u8,.i .u8,.i .u8,.i .u8,.bd,.b,.s,.i .i64,.i .i64,.s,.s,.i .u8,.i .u8,.i .u8,.rs 21 1 0 .q (some .q),.b,.b,.i .i64]
abbrev q79:List PV:=[.p 0 0,.i .u8,.bd,.b,.s,.i .i64,.i .i64,.s,.s,.i .u8,.i .u8,.i .u8,.i .u8,.bd,.b,.s,.i .i64,.i .i64,.s,.s,.i .u8,.i .u8,.i .u8,.i .u8,.bd,.b,.s,.i .i64,.i .i64,.s,.s,.i .u8,.i .u8,.i .u8,.ws 1,.b,.b,.i .i64]
noncomputable def OH(n:Nat):Ent:=QT 103 (di n)
theorem M1(n:Nat):gV Tryz.prog (OH n):=OV Tryz.call103 (PN n) (UM n)
def c103(n:Nat):FE Tryz.prog:=libF (M1 n)
def c166(n:Nat):PF Tryz.prog 166 [] (.ag [.s,.s,.s,.s]):=aO Tryz.func166 Tryz.call166 [] [] [] [] (vW n)
def c104(n:Nat):PF Tryz.prog 104 [.i .u8] (.tp q37):=aO Tryz.func104 Tryz.call104 [(c165 n).e,(c166 n).e] [] [] [] (rn n)
noncomputable def QX(_n:Nat):Ent:=W0 105
theorem LY(n:Nat):gV Tryz.prog (QX n):=Ud Tryz.call105 Tryz.strings_Join_none Tryz.strings_Join
def c105(n:Nat):FE Tryz.prog:=libF (LY n)
def c68E(n:Nat):List (FE Tryz.prog):=[(c89 n).e,(c24 n).e,(c102 n).e,c103 n,(c104 n).e,c105 n]
def acw(n:Nat):LP Tryz.prog Tryz.f68.ntmps:=cw (c68E n) [] 0 (sb (acM [] [] Tryz.f68) 0) false ⟨[(6,.p 1 0),(7,.p 2 0),(11,.ws 3),(48,.rs 1 4 0 .q none),(49,.i .i64),(50,.i .i64)],[(1,.ints .u8 3),(2,.ints .u8 3),(3,.rows [.s]),(4,.rows [.s])],5,0,0,0⟩ [] [⟨.exit 0,⟨[(11,.ws 3)],[(3,.rows [.s])],5,0,0,0⟩⟩] (bg n) n
def c68(n:Nat):PF Tryz.prog 68 q108 (.tp q37):=aO Tryz.func68 Tryz.call68 (c68E n) [acw n] [] [] (dM n)
def c67(n:Nat):FF Tryz.prog 67 q135 q96 1 1 [⟨.tp q37,[],[],false⟩]:=funC Tryz.func67 Tryz.call67 [(c68 n).e] [] [] [] [0] (my n)
def c106(n:Nat):PF Tryz.prog 106 [.ag q53] (.tp q37):=aO Tryz.func106 Tryz.call106 [(c92 n).e,(c68 n).e] [] [] [] (ng n)
def c69(n:Nat):FF Tryz.prog 69 q135 q96 1 1 [⟨.tp q37,[],[],false⟩]:=funC Tryz.func69 Tryz.call69 [(c106 n).e] [] [] [] [0] (kO n)
def c107(n:Nat):PF Tryz.prog 107 [.ag q25] (.tp q37):=aO Tryz.func107 Tryz.call107 [(c96 n).e,(c68 n).e] [] [] [] (ll n)
def c108(n:Nat):PF Tryz.prog 108 [.i .u8] (.tp [.s,.s]):=aO Tryz.func108 Tryz.call108 [] [] [] [] (iu n)
def c70E(n:Nat):List (FE Tryz.prog):=[(c18 n).e,(c107 n).e,(c108 n).e,c105 n]
def adr(n:Nat):LP Tryz.prog Tryz.f70.ntmps:=cw (c70E n) [] 0 (sb (acM [] [] Tryz.f70) 0) true ⟨[(1,.p 1 0),(5,.ws 2),(28,.ws 0),(29,.i .i64),(30,.i .i64)],q171,3,1,1,1⟩ [] [⟨.exit 0,⟨[(1,.p 1 0),(5,.ws 2)],q171,3,1,1,1⟩⟩] (fk n) n
def c70(n:Nat):FF Tryz.prog 70 q135 q96 1 1 [⟨.tp q37,[],[],false⟩]:=funC Tryz.func70 Tryz.call70 (c70E n) [adr n] [] [] [0] (rk n)
def c19(n:Nat):FF Tryz.prog 19 q135 q96 1 1 [⟨.tp q37,[],[],false⟩]:=funC Tryz.func19 Tryz.call19 [(c18 n).e,(c40 n).e,(c67 n).e,(c69 n).e,(c70 n).e] [] [] [] [0] (kw n)
def c168(n:Nat):FF Tryz.prog 168 [.p 0 0] q110 1 1 [⟨.s,[],[],false⟩]:=funC Tryz.func168 Tryz.call168 [] [] [] [] [0] (dn n)
def c110(n:Nat):FF Tryz.prog 110 [.p 0 0] q110 1 1 [⟨.tp [.i .u8,.b],[],[],false⟩]:=funC Tryz.func110 Tryz.call110 [(c168 n).e] [] [] [] [0] (bG n)
def c171(n:Nat):FF Tryz.prog 171 [.p 0 0] q110 1 1 [⟨.i .i64,[],[],false⟩]:=funC Tryz.func171 Tryz.call171 [] [] [] [] [0] (bY n)
def c170(n:Nat):FF Tryz.prog 170 [.p 0 0,.i .i64,.i .i64] q110 1 1 [⟨.it 183 (.ag [.i .i64,.i .i64]),[],[],true⟩]:=funC Tryz.func170 Tryz.call170 [] [] [] [] [0] (aW n)
def c169(n:Nat):FF Tryz.prog 169 [.p 0 0,.s] q110 0 1 [⟨.it 183 (.ag [.i .i64,.i .i64]),q73,[],true⟩,⟨.i .u8,q73,[],false⟩]:=funC Tryz.func169 Tryz.call169 [(c110 n).e,(c171 n).e,(c170 n).e,(c212 n).e] [] [] [] [0] (cZ n)
def c259(n:Nat):PF Tryz.prog 259 [.s,.s] (.b):=aO Tryz.func259 Tryz.call259 [] [] [] [] (iC n)
def c214(n:Nat):PF Tryz.prog 214 [.s,.s] (.b):=aO Tryz.func214 Tryz.call214 [(c259 n).e] [] [] [] (kK n)
def c173(n:Nat):FF Tryz.prog 173 [.p 0 0,.s] q110 1 1 [⟨.b,[],[],false⟩]:=funC Tryz.func173 Tryz.call173 [(c168 n).e,(c214 n).e] [] [] [] [0] (gD n)
def c113(n:Nat):FF Tryz.prog 113 [.p 0 0,.s] q110 0 1 [⟨.b,q73,[],false⟩]:=funC Tryz.func113 Tryz.call113 [(c173 n).e] [] [] [] [0] (aG n)
def Ze(n:Nat):LP Tryz.prog Tryz.f261.ntmps:=cw [] [] 0 (sb (acM [] [] Tryz.f261) 0) false ⟨[(0,.sl 0 0 4 (some (.k 4))),(1,.s),(7,.i .i64),(8,.i .i64)],[(0,.cells [.s,.s,.s,.s])],1,1,1,1⟩ [] q159 (jQ n) n
def c261(n:Nat):FF Tryz.prog 261 [.sl 0 0 4 (some (.k 4)),.s] [.cells [.s,.s,.s,.s]] 1 1 [⟨.i .i64,[],[],false⟩]:=funC Tryz.func261 Tryz.call261 [] [Ze n] [] [] [0] (kV n)
def c251(n:Nat):PF Tryz.prog 251 [.i .u8] (.tp [.i .u8,.b]):=aO Tryz.func251 Tryz.call251 [(c166 n).e,(c261 n).e] [] [] [] (oZ n)
def c250(n:Nat):FF Tryz.prog 250 [.p 0 0] [.cells [.p 1 0],.cells q37] 1 2 [⟨.it 183 (.ag [.i .i64,.i .i64]),q145,[],true⟩,⟨.i .u8,q145,[],false⟩]:=funC Tryz.func250 Tryz.call250 [(c110 n).e,(c251 n).e,(c169 n).e] [] [] [] [0,1] (dr n)
def abi(n:Nat):List (FE Tryz.prog):=[(c171 n).e,(c110 n).e,(c212 n).e,(c170 n).e]
def abB(n:Nat):LP Tryz.prog Tryz.f252.ntmps:=cw (abi n) [] 0 (sb (acM [] [] Tryz.f252) 0) false ⟨[(0,.p 0 0),(1,.s),(2,.i .i64),(3,.i .i64),(9,.i .i64),(10,.i .u8),(11,.b)],q73,1,1,0,1⟩ [] [⟨.exit 0,⟨[(0,.p 0 0),(2,.i .i64),(9,.i .i64)],q73,1,1,0,1⟩⟩] (dL n) n
def c252(n:Nat):FF Tryz.prog 252 [.p 0 0,.s,.i .i64,.i .i64] q110 0 1 [⟨.it 183 (.ag [.i .i64,.i .i64]),q73,[],true⟩,⟨.s,q73,[],false⟩]:=funC Tryz.func252 Tryz.call252 (abi n) [abB n] [] [] [0] (cH n)
def c287(n:Nat):FF Tryz.prog 287 [.s,.p 0 0] [.cells [.p 1 0],.cells q37] 1 2 [⟨.i .i64,q145,[],false⟩,⟨.it 183 (.ag [.i .i64,.i .i64]),q145,[],true⟩]:=funC Tryz.func287 Tryz.call287 [(c113 n).e,(c169 n).e,(c252 n).e,c43 n] [] [] [] [0,1] (dR n)
def c255(n:Nat):FF Tryz.prog 255 [.p 0 0] q110 0 1 [⟨.it 183 (.ag [.i .i64,.i .i64]),q73,[],true⟩,⟨.ag q45,q73,[],false⟩]:=funC Tryz.func255 Tryz.call255 [(c113 n).e,(c169 n).e,(c252 n).e,(c287 n).e] [] [] [] [0] (nF n)
def c254(n:Nat):FF Tryz.prog 254 q150 [.cells [.p 2 0],.cells q24,.cells q37] 1 3 [⟨.it 183 (.ag [.i .i64,.i .i64]),[(1,.cells q24),(2,.cells q37)],[],true⟩,⟨.tp [],[(1,.cells q24),(2,.cells q37)],[],false⟩]:=funC Tryz.func254 Tryz.call254 [(c255 n).e] [] [] [] [0,1,2] (lE n)
def c288(n:Nat):FF Tryz.prog 288 [.i .i64,.p 2 0,.p 0 0,.p 1 0] [.ints .u8 3,.ints .u8 3,.cells [.i .u8]] 2 3 [⟨.i .u8,[(2,.cells [.i .u8])],[],false⟩]:=funC Tryz.func288 Tryz.call288 [] [] [] [] [2,0,1] (u0 n)
def YD(n:Nat):List (FE Tryz.prog):=[(c138 n).e,(c288 n).e]
def aak(n:Nat):LP Tryz.prog Tryz.f258.ntmps:=cw (YD n) [] 1 (sb (acM [0] [] Tryz.f258) 1) false ⟨[(6,.p 2 0),(12,.fn 288 [.p 5 0,.p 1 0,.p 0 0]),(13,.p 6 0),(14,.i .i64)],[(0,.ints .u8 3),(1,.ints .u8 3),(2,.ints .u8 3),(5,.cells [.i .u8]),(6,.ints .u8 3)],7,0,0,0⟩ [] [⟨.exit 2,⟨[(6,.p 2 0),(13,.p 6 0)],[(2,.ints .u8 3),(6,.ints .u8 3)],7,0,0,0⟩⟩] (ul n) n
def c258(n:Nat):PF Tryz.prog 258 q156 (.tp q143):=aO Tryz.func258 Tryz.call258 (YD n) [aak n] [0] [] (ft n)
def c253(n:Nat):FF Tryz.prog 253 [.p 0 0] [.cells [.fn 1000252 [.p 1 0]],.cells q37] 1 2 [⟨.it 183 (.ag [.i .i64,.i .i64]),q145,[],true⟩,⟨.s,q145,[],false⟩]:=funC Tryz.func253 Tryz.call253 [(c252 n).e] [] [] [] [0,1] (jR n)
def c256(n:Nat):FF Tryz.prog 256 [.p 0 0,.p 2 0] q129 2 4 [⟨.it 183 (.ag [.i .i64,.i .i64]),q119,[],true⟩,⟨.tp [],q119,[],false⟩]:=funC Tryz.func256 Tryz.call256 [(c253 n).e] [] [] [] [0,2,1,3] (lH n)
def c257(n:Nat):FF Tryz.prog 257 [.p 0 0,.p 2 0] q129 2 4 [⟨.it 183 (.ag [.i .i64,.i .i64]),q119,[],true⟩,⟨.tp [],q119,[],false⟩]:=funC Tryz.func257 Tryz.call257 [(c253 n).e] [] [] [] [0,2,1,3] (lK n)
def c213(n:Nat):FF Tryz.prog 213 [.p 0 0] q110 0 1 [⟨.it 183 (.ag [.i .i64,.i .i64]),q73,[],true⟩,⟨.tp [.ag q24,.ai .i64 3],q73,[],false⟩]:=funC Tryz.func213 Tryz.call213 [(c250 n).e,(c171 n).e,(c254 n).e,(c258 n).e,(c113 n).e,(c256 n).e,(c257 n).e] [] [0] [] [0] (lh n)
def c172(n:Nat):FF Tryz.prog 172 [.p 0 0] q110 0 1 [⟨.it 183 (.ag [.i .i64,.i .i64]),q73,[],true⟩,⟨.tp [.ag q24,.i .i64],q73,[],false⟩]:=funC Tryz.func172 Tryz.call172 [(c213 n).e,(c64 n).e,(c170 n).e] [] [] [] [0] (jK n)
def Y8(n:Nat):List (FE Tryz.prog):=[(c113 n).e,(c168 n).e,(c171 n).e,(c170 n).e]
def Y9(n:Nat):LP Tryz.prog Tryz.f115.ntmps:=cw (Y8 n) [] 0 (sb (acM [] [] Tryz.f115) 0) false ⟨[(0,.p 0 0),(1,.s),(4,.i .i64),(5,.s)],q73,1,1,0,1⟩ [] [⟨.exit 0,⟨[(0,.p 0 0),(4,.i .i64)],q73,1,1,0,1⟩⟩] (eU n) n
def c115(n:Nat):FF Tryz.prog 115 [.p 0 0,.s] q110 0 1 [⟨.tp [],q73,[],false⟩,⟨.it 183 (.ag [.i .i64,.i .i64]),q73,[],true⟩]:=funC Tryz.func115 Tryz.call115 (Y8 n) [Y9 n] [] [] [0] (cJ n)
def c174(n:Nat):FF Tryz.prog 174 [.ws 0] q96 1 1 [⟨.rs 21 0 0 .q (some .q),[],[],false⟩]:=funC Tryz.func174 Tryz.call174 [] [] [] [] [0] (bV n)
def adn(n:Nat):FF Tryz.prog 63 [.ag q36] q96 1 1 [⟨.b,[],[],false⟩]:=funC Tryz.func63 Tryz.call63 [] [] [] [] [0] (ra n)
def ab3(n:Nat):FF Tryz.prog 97 q150 [.cells q25,.cells q78,.rows q11] 3 3 [⟨.b,[],[],false⟩]:=funC Tryz.func97 Tryz.call97 [(c96 n).e] [] [] [] [0,1,2] (ur n)
def acy(n:Nat):FF Tryz.prog 98 [.p 0 0,.p 1 0,.p 2 0] [.cells [.i .u8,.bd,.b,.s,.i .i64,.i .i64,.s,.s,.i .u8,.i .u8,.i .u8,.i .u8,.bd,.b,.s,.i .i64,.i .i64,.s,.s,.i .u8,.i .u8,.i .u8,.i .u8,.bd,.b,.s,.i .i64,.i .i64,.s,.s,.i .u8,.i .u8,.i .u8,.rs 21 3 0 .q (some .q),.b,.b],.cells [.i .i64],.cells q25,.rows q11] 4 4 [⟨.b,[],[],false⟩]:=funC Tryz.func98 Tryz.call98 [(c99 n).e] [] [] [] [0,1,2,3] (tC n)
def Zu(n:Nat):FF Tryz.prog 100 [.p 0 0,.p 1 0,.p 2 0,.p 3 0] [.cells [.i .u8,.bd,.b,.s,.i .i64,.i .i64,.s,.s,.i .u8,.i .u8,.i .u8,.i .u8,.bd,.b,.s,.i .i64,.i .i64,.s,.s,.i .u8,.i .u8,.i .u8,.i .u8,.bd,.b,.s,.i .i64,.i .i64,.s,.s,.i .u8,.i .u8,.i .u8,.rs 21 4 0 .q (some .q),.b,.b],.cells [.i .i64],.cells [.i .i64],.cells q25,.rows q11] 5 5 [⟨.b,[],[],false⟩]:=funC Tryz.func100 Tryz.call100 [(c99 n).e] [] [] [] [0,1,2,3,4] (tP n)
def Zq(n:Nat):FF Tryz.prog 101 q150 [.cells q78,.cells [.i .i64],.rows q11] 3 3 [⟨.b,[],[],false⟩]:=funC Tryz.func101 Tryz.call101 [] [] [] [] [0,1,2] (tQ n)
def acA(n:Nat):FF Tryz.prog 95 [.sl 0 0 4 (some (.k 4))] [.cells q91,.cells q25,.cells [.i .u8,.bd,.b,.s,.i .i64,.i .i64,.s,.s,.i .u8,.i .u8,.i .u8,.i .u8,.bd,.b,.s,.i .i64,.i .i64,.s,.s,.i .u8,.i .u8,.i .u8,.i .u8,.bd,.b,.s,.i .i64,.i .i64,.s,.s,.i .u8,.i .u8,.i .u8,.rs 21 5 0 .q (some .q),.b,.b],.cells [.i .i64],.cells [.i .i64],.rows q11] 6 6 [⟨.i .i64,[],[],false⟩]:=funC Tryz.func95 Tryz.call95 [(ab3 n).e,(acy n).e,(Zu n).e,(Zq n).e] [] [0] [] [0,1,2,3,4,5] (oy n)
def UY(n:Nat):List (FE Tryz.prog):=[(c96 n).e,(acA n).e]
def X9(n:Nat):LP Tryz.prog Tryz.f66.ntmps:=cw (UY n) [] 0 (sb (acM [] [] Tryz.f66) 0) true ⟨[(1,.p 1 0),(4,.p 2 0),(13,.rs 21 0 0 .q (some .q)),(14,.i .i64),(15,.i .i64)],[(0,.rows q11),(1,.cells q36),(2,.cells [.i .i64])],3,1,1,1⟩ [] q92 (lF n) n
def ab6(n:Nat):FF Tryz.prog 66 [.ag q36] q96 1 1 [⟨.tp [.i .i64,.i .i64],[],[],false⟩]:=funC Tryz.func66 Tryz.call66 (UY n) [X9 n] [] [] [0] (pD n)
def abP(n:Nat):FF Tryz.prog 39 [.ag q36] q96 1 1 [⟨.tp [.i .i64,.i .i64],[],[],false⟩]:=funC Tryz.func39 Tryz.call39 [(adn n).e,(c64 n).e,(c65 n).e,(ab6 n).e] [] [] [] [0] (jE n)
def OR(n:Nat):List (FE Tryz.prog):=[(c169 n).e,(c108 n).e,(c113 n).e,(c171 n).e,(c170 n).e,(c172 n).e,(c173 n).e,(c115 n).e,(c174 n).e,(abP n).e]
def aat(n:Nat):zf1:=cj (OR n) [] 1003 (sb zg1 1003) true ⟨[(0,.p 0 0),(2,.p 1 0),(3,.p 2 0),(15,.b)],[(0,.cells q37),(1,.cells q13),(2,.cells [.ik .u8 3,.bk false,.bk false,.sk [],.ik .i64 0,.ik .i64 0,.sk [],.sk [],.ik .u8 0,.ik .u8 0,.ik .u8 0,.ik .u8 0,.bk false,.bk false,.sk [],.ik .i64 0,.ik .i64 0,.sk [],.sk [],.ik .u8 0,.ik .u8 0,.ik .u8 0,.ik .u8 0,.bk false,.bk false,.sk [],.ik .i64 0,.ik .i64 0,.sk [],.sk [],.ik .u8 0,.ik .u8 0,.ik .u8 0,.ws 4,.bk false,.bk false]),(3,.rows q11),(4,.rows q11)],5,1,0,1⟩ [⟨.nrm,⟨[(0,.p 0 0),(2,.p 1 0),(3,.p 2 0)],[(0,.cells q37),(1,.cells q13),(2,.cells [.i .u8,.bk false,.bk false,.sk [],.ik .i64 0,.ik .i64 0,.sk [],.sk [],.ik .u8 0,.ik .u8 0,.ik .u8 0,.ik .u8 0,.bk false,.bk false,.sk [],.ik .i64 0,.ik .i64 0,.sk [],.sk [],.ik .u8 0,.ik .u8 0,.ik .u8 0,.ik .u8 0,.bk false,.bk false,.sk [],.ik .i64 0,.ik .i64 0,.sk [],.sk [],.ik .u8 0,.ik .u8 0,.ik .u8 0,.ws 4,.bk false,.bk false]),(3,.rows q11),(4,.rows q11)],5,1,0,1⟩⟩] (pA n)
def Xp(n:Nat):zf1:=cj (OR n) [] 1016 (sb (sb zg1 0).body 1016) true ⟨q136,q47,7,1,0,1⟩ [⟨.nrm,q113⟩] (nM n)
def WO(n:Nat):zf1:=cj (OR n) [] 1017 (sb (sb zg1 0).body 1017) true q113 [⟨.pan (.it 183 (.ag [.i .i64,.i .i64])),⟨[],q73,1,1,0,1⟩⟩,⟨.nrm,⟨q136,[(0,.cells q37),(1,.cells q21),(2,.cells q32),(3,.rows [.i .i64]),(4,.cells q25),(5,.rows q11),(6,.rows q11)],7,1,0,1⟩⟩] (nN n)
def aa2(n:Nat):zf1:=cw (OR n) [Xp n,WO n] 0 (sb zg1 0) true ⟨q160,[(0,.cells q37),(1,.cells q14),(2,.cells q61),(3,.rows [.i .i64]),(4,.rows q11),(5,.rows q11)],6,1,0,1⟩ [.nilT 6 1000 [.i .i64]] [⟨.pan (.it 183 (.ag [.i .i64,.i .i64])),⟨[],q73,1,1,0,1⟩⟩,⟨.exit 0,⟨q160,[(0,.cells q37),(1,.cells q20),(2,.cells q30),(3,.rows [.i .i64]),(4,.rows q11),(5,.rows q11)],6,1,0,1⟩⟩] (gu n) n
def c111(n:Nat):FF Tryz.prog 111 [.p 0 0] q110 0 1 [⟨.it 183 (.ag [.i .i64,.i .i64]),q73,[],true⟩,⟨.ag [.i .u8,.bd,.b,.s,.i .i64,.i .i64,.s,.s,.i .u8,.i .u8,.i .u8,.i .u8,.bd,.b,.s,.i .i64,.i .i64,.s,.s,.i .u8,.i .u8,.i .u8,.i .u8,.bd,.b,.s,.i .i64,.i .i64,.s,.s,.i .u8,.i .u8,.i .u8,.rs 21 1 0 .q (some .q),.b,.b],[(0,.cells q37),(1,.rows q11)],[1],false⟩]:=funC Tryz.func111 Tryz.call111 (OR n) [aat n,aa2 n] [] [3,16,17] [0] (pI n)
def c112(n:Nat):FF Tryz.prog 112 [.p 2 0,.i .i64] [.cells q37,.rows q11,.cells q74] 2 3 [⟨.tp [],[(2,.cells q74)],[],false⟩]:=funC Tryz.func112 Tryz.call112 [] [] [] [] [2,0,1] (gQ n)
def U8(n:Nat):FF Tryz.prog 112 [.p 2 0,.i .i64] [.cells q37,.rows q11,.cells q79] 2 3 [⟨.tp [],[(2,.cells q79)],[],false⟩]:=funC Tryz.func112 Tryz.call112 [] [] [] [] [2,0,1] (dD n)
def P8(_n:Nat):Ent:=VB 215
theorem MK(n:Nat):gV Tryz.prog (P8 n):=QQ Tryz.call215 λs c w h1 h2 h3=>Tryz.strings_TrimRight_laid s c w h1 h2 h3
def c215(n:Nat):FE Tryz.prog:=libF (MK n)
def aax(n:Nat):PF Tryz.prog 259 [.s,.sk [45]] (.b):=aO Tryz.func259 Tryz.call259 [] [] [] [] (ge n)
def c260(n:Nat):PF Tryz.prog 260 [.s,.sk [45]] (.s):=aO Tryz.func260 Tryz.call260 [(aax n).e] [] [] [] (gU n)
def c216(n:Nat):PF Tryz.prog 216 [.s,.sk [45]] (.s):=aO Tryz.func216 Tryz.call216 [(c260 n).e] [] [] [] (kh n)
end
end Go.Sh
