import Derived.Test.YtadejcglcffgbaaGreatDoorYText
set_option linter.unusedVariables false
set_option linter.unusedSimpArgs false
set_option maxRecDepth 100000
set_option maxHeartbeats 4000000
namespace Go.Sh
open Go.Abs Go.Proofs
noncomputable section
abbrev q122:List (Nat×PB):=[(0,.rows q11),(1,.cells q15),(2,.rows [.s])]
abbrev q82:List PB:=[.cells q29]
abbrev q52:List (Nat×PB):=[(0,.cells q29)]
abbrev q110:List PX:=[⟨.ret,⟨q87,[],1,1,1,1⟩⟩,⟨.exit 0,⟨[],[],1,1,1,1⟩⟩]
abbrev q99:List (Nat×PB):=[(1,.cells q29)]
abbrev q90:List PB:=[.cells [.fn 218 [.p 1 0]],.cells [.fn 1000217 [.p 3 0]],.cells q21,.cells q29]
abbrev q88:List (Nat×PB):=[(2,.cells q21),(3,.cells q29)]
abbrev q94:List (Nat×PV):=[(0,.p 0 0),(2,.p 1 0),(3,.p 2 0),(5,.s),(6,.ws 3),(7,.p 4 0),(9,.i .i64)]
abbrev q44:List PV:=[.i .u8,.bk false,.bk false,.sk [],.ik .i64 0,.ik .i64 0,.sk [],.sk [],.ik .u8 0,.ik .u8 0,.ik .u8 0,.ik .u8 0,.bk false,.bk false,.sk [],.ik .i64 0,.ik .i64 0,.sk [],.sk [],.ik .u8 0,.ik .u8 0,.ik .u8 0,.ik .u8 0,.bk false,.bk false,.sk [],.ik .i64 0,.ik .i64 0,.sk [],.sk [],.ik .u8 0,.ik .u8 0,.ik .u8 0,.ws 6,.b,.bk false]
abbrev q23:List (Nat×PB):=[(0,.cells q29),(1,.cells q26),(2,.cells q44),(3,.rows [.i .i64]),(4,.cells [.bd,.b,.s,.i .i64,.i .i64,.s,.s,.i .u8,.i .u8,.i .u8,.bk false,.bk false,.bk false,.sk [],.ik .i64 0,.ik .i64 0,.sk [],.sk [],.ik .u8 0,.ik .u8 0,.ik .u8 0]),(5,.rows q11),(6,.rows q11)]
abbrev q84:PSt:=⟨[(0,.p 0 0),(2,.p 1 0),(3,.p 2 0),(5,.s),(6,.ws 3),(7,.p 4 0),(9,.i .i64),(49,.b)],q23,7,1,0,1⟩
abbrev q111:List (Nat×PV):=[(0,.p 0 0),(2,.p 1 0),(3,.p 2 0),(5,.s),(6,.ws 3)]
abbrev q53:List PV:=[.p 0 0,.i .u8,.bd,.b,.s,.i .i64,.i .i64,.s,.s,.i .u8,.i .u8,.i .u8,.i .u8,.bd,.b,.s,.i .i64,.i .i64,.s,.s,.i .u8,.i .u8,.i .u8,.i .u8,.bd,.b,.s,.i .i64,.i .i64,.s,.s,.i .u8,.i .u8,.i .u8,.rs 21 1 0 .q (some .q),.b,.b,.i .i64]
abbrev q60:List PV:=[.p 0 0,.i .u8,.bd,.b,.s,.i .i64,.i .i64,.s,.s,.i .u8,.i .u8,.i .u8,.i .u8,.bd,.b,.s,.i .i64,.i .i64,.s,.s,.i .u8,.i .u8,.i .u8,.i .u8,.bd,.b,.s,.i .i64,.i .i64,.s,.s,.i .u8,.i .u8,.i .u8,.ws 1,.b,.b,.i .i64]
noncomputable def Q7(n:Nat):Ent:=Ly 37 (cL n)
theorem N6(n:Nat):fC Tryz.prog (Q7 n):=OA Tryz.call37 (LZ n) (Q1 n)
def c37(n:Nat):FE Tryz.prog:=libF (N6 n)
def c79(n:Nat):PF Tryz.prog 79 [] (.ag [.s,.s,.s,.s]):=aM Tryz.func79 Tryz.call79 [] [] [] [] (tV n)
def c38(n:Nat):PF Tryz.prog 38 [.i .u8] (.tp q29):=aM Tryz.func38 Tryz.call38 [(c78 n).e,(c79 n).e] [] [] [] (rX n)
noncomputable def QM(_n:Nat):Ent:=TL 39
theorem Ot(n:Nat):fC Tryz.prog (QM n):=QG Tryz.call39 Tryz.strings_Join_none Tryz.strings_Join
def c39(n:Nat):FE Tryz.prog:=libF (Ot n)
def c13E(n:Nat):List (FE Tryz.prog):=[(c35 n).e,(c31 n).e,(c36 n).e,(c37 n),(c38 n).e,(c39 n)]
def Zi(n:Nat):LP Tryz.prog Tryz.f13.ntmps:=cA (c13E n) [] 0 (sb (acM [] [] Tryz.f13) 0) false ⟨[(6,.p 1 0),(7,.p 2 0),(11,.ws 3),(48,.rs 1 4 0 .q none),(49,.i .i64),(50,.i .i64)],[(1,.ints .u8 3),(2,.ints .u8 3),(3,.rows [.s]),(4,.rows [.s])],5,0,0,0⟩ [] [⟨.exit 0,⟨[(11,.ws 3)],[(3,.rows [.s])],5,0,0,0⟩⟩] (aW n) n
def c13(n:Nat):PF Tryz.prog 13 q80 (.tp q29):=aM Tryz.func13 Tryz.call13 (c13E n) [Zi n] [] [] (bR n)
def c53(n:Nat):FF Tryz.prog 53 q106 q66 1 1 [⟨.tp q29,[],[],false⟩]:=funC Tryz.func53 Tryz.call53 [(c13 n).e] [] [] [] [0] (jM n)
def c107(n:Nat):PF Tryz.prog 107 [.ag q39] (.tp q29):=aM Tryz.func107 Tryz.call107 [(c117 n).e,(c13 n).e] [] [] [] (jn n)
def c54(n:Nat):FF Tryz.prog 54 q106 q66 1 1 [⟨.tp q29,[],[],false⟩]:=funC Tryz.func54 Tryz.call54 [(c107 n).e] [] [] [] [0] (kA n)
def c108(n:Nat):PF Tryz.prog 108 [.ag q24] (.tp q29):=aM Tryz.func108 Tryz.call108 [(c151 n).e,(c13 n).e] [] [] [] (gH n)
def c109(n:Nat):PF Tryz.prog 109 [.i .u8] (.tp [.s,.s]):=aM Tryz.func109 Tryz.call109 [] [] [] [] (eS n)
def c55E(n:Nat):List (FE Tryz.prog):=[(c22 n).e,(c108 n).e,(c109 n).e,(c39 n)]
def ZR(n:Nat):LP Tryz.prog Tryz.f55.ntmps:=cA (c55E n) [] 0 (sb (acM [] [] Tryz.f55) 0) true ⟨[(1,.p 1 0),(5,.ws 2),(28,.rs 21 0 0 .q (some .q)),(29,.i .i64),(30,.i .i64)],q122,3,1,1,1⟩ [] [⟨.exit 0,⟨[(1,.p 1 0),(5,.ws 2)],q122,3,1,1,1⟩⟩] (fX n) n
def c55(n:Nat):FF Tryz.prog 55 q106 q66 1 1 [⟨.tp q29,[],[],false⟩]:=funC Tryz.func55 Tryz.call55 (c55E n) [ZR n] [] [] [0] (mr n)
def c5(n:Nat):FF Tryz.prog 5 q106 q66 1 1 [⟨.tp q29,[],[],false⟩]:=funC Tryz.func5 Tryz.call5 [(c22 n).e,(c23 n).e,(c53 n).e,(c54 n).e,(c55 n).e] [] [] [] [0] (eI n)
def c110(n:Nat):FF Tryz.prog 110 [.p 0 0] q82 1 1 [⟨.s,[],[],false⟩]:=funC Tryz.func110 Tryz.call110 [] [] [] [] [0] (cM n)
def c57(n:Nat):FF Tryz.prog 57 [.p 0 0] q82 1 1 [⟨.tp [.i .u8,.b],[],[],false⟩]:=funC Tryz.func57 Tryz.call57 [(c110 n).e] [] [] [] [0] (bm n)
def c113(n:Nat):FF Tryz.prog 113 [.p 0 0] q82 1 1 [⟨.i .i64,[],[],false⟩]:=funC Tryz.func113 Tryz.call113 [] [] [] [] [0] (bG n)
def c112(n:Nat):FF Tryz.prog 112 [.p 0 0,.i .i64,.i .i64] q82 1 1 [⟨.it 123 (.ag [.i .i64,.i .i64]),[],[],true⟩]:=funC Tryz.func112 Tryz.call112 [] [] [] [] [0] (aO n)
def c111(n:Nat):FF Tryz.prog 111 [.p 0 0,.s] q82 0 1 [⟨.it 123 (.ag [.i .i64,.i .i64]),q52,[],true⟩,⟨.i .u8,q52,[],false⟩]:=funC Tryz.func111 Tryz.call111 [(c57 n).e,(c113 n).e,(c112 n).e,(c157 n).e] [] [] [] [0] (cr n)
def c224(n:Nat):PF Tryz.prog 224 [.s,.s] (.b):=aM Tryz.func224 Tryz.call224 [] [] [] [] (gP n)
def c159(n:Nat):PF Tryz.prog 159 [.s,.s] (.b):=aM Tryz.func159 Tryz.call159 [(c224 n).e] [] [] [] (jF n)
def c115(n:Nat):FF Tryz.prog 115 [.p 0 0,.s] q82 1 1 [⟨.b,[],[],false⟩]:=funC Tryz.func115 Tryz.call115 [(c110 n).e,(c159 n).e] [] [] [] [0] (fP n)
def c60(n:Nat):FF Tryz.prog 60 [.p 0 0,.s] q82 0 1 [⟨.b,q52,[],false⟩]:=funC Tryz.func60 Tryz.call60 [(c115 n).e] [] [] [] [0] (aC n)
def Yu(n:Nat):LP Tryz.prog Tryz.f226.ntmps:=cA [] [] 0 (sb (acM [] [] Tryz.f226) 0) false ⟨[(0,.sl 0 0 4 (some (.k 4))),(1,.s),(7,.i .i64),(8,.i .i64)],[(0,.cells [.s,.s,.s,.s])],1,1,1,1⟩ [] q110 (iU n) n
def c226(n:Nat):FF Tryz.prog 226 [.sl 0 0 4 (some (.k 4)),.s] [.cells [.s,.s,.s,.s]] 1 1 [⟨.i .i64,[],[],false⟩]:=funC Tryz.func226 Tryz.call226 [] [Yu n] [] [] [0] (jL n)
def c216(n:Nat):PF Tryz.prog 216 [.i .u8] (.tp [.i .u8,.b]):=aM Tryz.func216 Tryz.call216 [(c79 n).e,(c226 n).e] [] [] [] (qJ n)
def c215(n:Nat):FF Tryz.prog 215 [.p 0 0] [.cells [.p 1 0],.cells q29] 1 2 [⟨.it 123 (.ag [.i .i64,.i .i64]),q99,[],true⟩,⟨.i .u8,q99,[],false⟩]:=funC Tryz.func215 Tryz.call215 [(c57 n).e,(c216 n).e,(c111 n).e] [] [] [] [0,1] (cQ n)
def XT(n:Nat):List (FE Tryz.prog):=[(c113 n).e,(c57 n).e,(c157 n).e,(c112 n).e]
def Xt(n:Nat):LP Tryz.prog Tryz.f217.ntmps:=cA (XT n) [] 0 (sb (acM [] [] Tryz.f217) 0) false ⟨[(0,.p 0 0),(1,.s),(2,.i .i64),(3,.i .i64),(9,.i .i64),(10,.i .u8),(11,.b)],q52,1,1,0,1⟩ [] [⟨.exit 0,⟨[(0,.p 0 0),(2,.i .i64),(9,.i .i64)],q52,1,1,0,1⟩⟩] (di n) n
def c217(n:Nat):FF Tryz.prog 217 [.p 0 0,.s,.i .i64,.i .i64] q82 0 1 [⟨.it 123 (.ag [.i .i64,.i .i64]),q52,[],true⟩,⟨.s,q52,[],false⟩]:=funC Tryz.func217 Tryz.call217 (XT n) [Xt n] [] [] [0] (cc n)
def c263(n:Nat):FF Tryz.prog 263 [.s,.p 0 0] [.cells [.p 1 0],.cells q29] 1 2 [⟨.i .i64,q99,[],false⟩,⟨.it 123 (.ag [.i .i64,.i .i64]),q99,[],true⟩]:=funC Tryz.func263 Tryz.call263 [(c60 n).e,(c111 n).e,(c217 n).e,(c65 n)] [] [] [] [0,1] (dp n)
def c220(n:Nat):FF Tryz.prog 220 [.p 0 0] q82 0 1 [⟨.it 123 (.ag [.i .i64,.i .i64]),q52,[],true⟩,⟨.ag q38,q52,[],false⟩]:=funC Tryz.func220 Tryz.call220 [(c60 n).e,(c111 n).e,(c217 n).e,(c263 n).e] [] [] [] [0] (md n)
def c219(n:Nat):FF Tryz.prog 219 q102 [.cells [.p 2 0],.cells q21,.cells q29] 1 3 [⟨.it 123 (.ag [.i .i64,.i .i64]),[(1,.cells q21),(2,.cells q29)],[],true⟩,⟨.tp [],[(1,.cells q21),(2,.cells q29)],[],false⟩]:=funC Tryz.func219 Tryz.call219 [(c220 n).e] [] [] [] [0,1,2] (kr n)
def c264(n:Nat):FF Tryz.prog 264 [.i .i64,.p 2 0,.p 0 0,.p 1 0] [.ints .u8 3,.ints .u8 3,.cells [.i .u8]] 2 3 [⟨.i .u8,[(2,.cells [.i .u8])],[],false⟩]:=funC Tryz.func264 Tryz.call264 [] [] [] [] [2,0,1] (sS n)
def Yb(n:Nat):List (FE Tryz.prog):=[(c70 n).e,(c264 n).e]
def Xy(n:Nat):LP Tryz.prog Tryz.f223.ntmps:=cA (Yb n) [] 1 (sb (acM [0] [] Tryz.f223) 1) false ⟨[(6,.p 2 0),(12,.fn 264 [.p 5 0,.p 1 0,.p 0 0]),(13,.p 6 0),(14,.i .i64)],[(0,.ints .u8 3),(1,.ints .u8 3),(2,.ints .u8 3),(5,.cells [.i .u8]),(6,.ints .u8 3)],7,0,0,0⟩ [] [⟨.exit 2,⟨[(6,.p 2 0),(13,.p 6 0)],[(2,.ints .u8 3),(6,.ints .u8 3)],7,0,0,0⟩⟩] (rG n) n
def c223(n:Nat):PF Tryz.prog 223 [.ai .u8 3,.ai .u8 3,.i .i64] (.tp q113):=aM Tryz.func223 Tryz.call223 (Yb n) [Xy n] [0] [] (eV n)
def c218(n:Nat):FF Tryz.prog 218 [.p 0 0] [.cells [.fn 1000217 [.p 1 0]],.cells q29] 1 2 [⟨.it 123 (.ag [.i .i64,.i .i64]),q99,[],true⟩,⟨.s,q99,[],false⟩]:=funC Tryz.func218 Tryz.call218 [(c217 n).e] [] [] [] [0,1] (iS n)
def c221(n:Nat):FF Tryz.prog 221 [.p 0 0,.p 2 0] q90 2 4 [⟨.it 123 (.ag [.i .i64,.i .i64]),q88,[],true⟩,⟨.tp [],q88,[],false⟩]:=funC Tryz.func221 Tryz.call221 [(c218 n).e] [] [] [] [0,2,1,3] (ki n)
def c222(n:Nat):FF Tryz.prog 222 [.p 0 0,.p 2 0] q90 2 4 [⟨.it 123 (.ag [.i .i64,.i .i64]),q88,[],true⟩,⟨.tp [],q88,[],false⟩]:=funC Tryz.func222 Tryz.call222 [(c218 n).e] [] [] [] [0,2,1,3] (kq n)
def c158(n:Nat):FF Tryz.prog 158 [.p 0 0] q82 0 1 [⟨.it 123 (.ag [.i .i64,.i .i64]),q52,[],true⟩,⟨.tp [.ag q21,.ai .i64 3],q52,[],false⟩]:=funC Tryz.func158 Tryz.call158 [(c215 n).e,(c113 n).e,(c219 n).e,(c223 n).e,(c60 n).e,(c221 n).e,(c222 n).e] [] [0] [] [0] (jU n)
def c114(n:Nat):FF Tryz.prog 114 [.p 0 0] q82 0 1 [⟨.it 123 (.ag [.i .i64,.i .i64]),q52,[],true⟩,⟨.tp [.ag q21,.i .i64],q52,[],false⟩]:=funC Tryz.func114 Tryz.call114 [(c158 n).e,(c14 n).e,(c112 n).e] [] [] [] [0] (iy n)
def c62E(n:Nat):List (FE Tryz.prog):=[(c60 n).e,(c110 n).e,(c113 n).e,(c112 n).e]
def YM(n:Nat):LP Tryz.prog Tryz.f62.ntmps:=cA (c62E n) [] 0 (sb (acM [] [] Tryz.f62) 0) false ⟨[(0,.p 0 0),(1,.s),(4,.i .i64),(5,.s)],q52,1,1,0,1⟩ [] [⟨.exit 0,⟨[(0,.p 0 0),(4,.i .i64)],q52,1,1,0,1⟩⟩] (eh n) n
def c62(n:Nat):FF Tryz.prog 62 [.p 0 0,.s] q82 0 1 [⟨.tp [],q52,[],false⟩,⟨.it 123 (.ag [.i .i64,.i .i64]),q52,[],true⟩]:=funC Tryz.func62 Tryz.call62 (c62E n) [YM n] [] [] [0] (cf n)
def c58E(n:Nat):List (FE Tryz.prog):=[(c111 n).e,(c109 n).e,(c60 n).e,(c113 n).e,(c112 n).e,(c114 n).e,(c115 n).e,(c62 n).e,(c24 n).e,(c52 n).e]
def YW(n:Nat):LP Tryz.prog Tryz.f58.ntmps:=gi (c58E n) [] 1003 (sb (acM [] [3,16,17] Tryz.f58) 1003) true ⟨[(0,.p 0 0),(2,.p 1 0),(3,.p 2 0),(15,.b)],[(0,.cells q29),(1,.cells q14),(2,.cells [.ik .u8 3,.bk false,.bk false,.sk [],.ik .i64 0,.ik .i64 0,.sk [],.sk [],.ik .u8 0,.ik .u8 0,.ik .u8 0,.ik .u8 0,.bk false,.bk false,.sk [],.ik .i64 0,.ik .i64 0,.sk [],.sk [],.ik .u8 0,.ik .u8 0,.ik .u8 0,.ik .u8 0,.bk false,.bk false,.sk [],.ik .i64 0,.ik .i64 0,.sk [],.sk [],.ik .u8 0,.ik .u8 0,.ik .u8 0,.ws 4,.bk false,.bk false]),(3,.rows q11),(4,.rows q11)],5,1,0,1⟩ [⟨.nrm,⟨[(0,.p 0 0),(2,.p 1 0),(3,.p 2 0)],[(0,.cells q29),(1,.cells q14),(2,.cells [.i .u8,.bk false,.bk false,.sk [],.ik .i64 0,.ik .i64 0,.sk [],.sk [],.ik .u8 0,.ik .u8 0,.ik .u8 0,.ik .u8 0,.bk false,.bk false,.sk [],.ik .i64 0,.ik .i64 0,.sk [],.sk [],.ik .u8 0,.ik .u8 0,.ik .u8 0,.ik .u8 0,.bk false,.bk false,.sk [],.ik .i64 0,.ik .i64 0,.sk [],.sk [],.ik .u8 0,.ik .u8 0,.ik .u8 0,.ws 4,.bk false,.bk false]),(3,.rows q11),(4,.rows q11)],5,1,0,1⟩⟩] (nI n)
def XR(n:Nat):LP Tryz.prog Tryz.f58.ntmps:=gi (c58E n) [] 1016 (sb (sb (acM [] [3,16,17] Tryz.f58) 0).body 1016) true ⟨q94,q23,7,1,0,1⟩ [⟨.nrm,q84⟩] (mn n)
def Wg(n:Nat):LP Tryz.prog Tryz.f58.ntmps:=gi (c58E n) [] 1017 (sb (sb (acM [] [3,16,17] Tryz.f58) 0).body 1017) true q84 [⟨.pan (.it 123 (.ag [.i .i64,.i .i64])),⟨[],q52,1,1,0,1⟩⟩,⟨.nrm,⟨q94,[(0,.cells q29),(1,.cells q26),(2,.cells q44),(3,.rows [.i .i64]),(4,.cells q24),(5,.rows q11),(6,.rows q11)],7,1,0,1⟩⟩] (mq n)
def Y7(n:Nat):LP Tryz.prog Tryz.f58.ntmps:=cA (c58E n) [XR n,Wg n] 0 (sb (acM [] [3,16,17] Tryz.f58) 0) true ⟨q111,[(0,.cells q29),(1,.cells q13),(2,.cells [.i .u8,.bk false,.bk false,.sk [],.ik .i64 0,.ik .i64 0,.sk [],.sk [],.ik .u8 0,.ik .u8 0,.ik .u8 0,.ik .u8 0,.bk false,.bk false,.sk [],.ik .i64 0,.ik .i64 0,.sk [],.sk [],.ik .u8 0,.ik .u8 0,.ik .u8 0,.ik .u8 0,.bk false,.bk false,.sk [],.ik .i64 0,.ik .i64 0,.sk [],.sk [],.ik .u8 0,.ik .u8 0,.ik .u8 0,.ws 5,.b,.bk false]),(3,.rows [.i .i64]),(4,.rows q11),(5,.rows q11)],6,1,0,1⟩ [.nilT 6 1000 [.i .i64]] [⟨.pan (.it 123 (.ag [.i .i64,.i .i64])),⟨[],q52,1,1,0,1⟩⟩,⟨.exit 0,⟨q111,[(0,.cells q29),(1,.cells q19),(2,.cells q27),(3,.rows [.i .i64]),(4,.rows q11),(5,.rows q11)],6,1,0,1⟩⟩] (fA n) n
def c58(n:Nat):FF Tryz.prog 58 [.p 0 0] q82 0 1 [⟨.it 123 (.ag [.i .i64,.i .i64]),q52,[],true⟩,⟨.ag q58,[(0,.cells q29),(1,.rows q11)],[1],false⟩]:=funC Tryz.func58 Tryz.call58 (c58E n) [YW n,Y7 n] [] [3,16,17] [0] (nP n)
def c59(n:Nat):FF Tryz.prog 59 [.p 2 0,.i .i64] [.cells q29,.rows q11,.cells q53] 2 3 [⟨.tp [],[(2,.cells q53)],[],false⟩]:=funC Tryz.func59 Tryz.call59 [] [] [] [] [2,0,1] (fY n)
def X8(n:Nat):FF Tryz.prog 59 [.p 2 0,.i .i64] [.cells q29,.rows q11,.cells q60] 2 3 [⟨.tp [],[(2,.cells q60)],[],false⟩]:=funC Tryz.func59 Tryz.call59 [] [] [] [] [2,0,1] (cX n)
def OE(_n:Nat):Ent:=SA 160
theorem JM(n:Nat):fC Tryz.prog (OE n):=OW Tryz.call160 λs c w h1 h2 h3=>Tryz.strings_TrimRight_laid s c w h1 h2 h3
def c160(n:Nat):FE Tryz.prog:=libF (JM n)
def YE(n:Nat):PF Tryz.prog 224 [.s,.sk [45]] (.b):=aM Tryz.func224 Tryz.call224 [] [] [] [] (fm n)
def c225(n:Nat):PF Tryz.prog 225 [.s,.sk [45]] (.s):=aM Tryz.func225 Tryz.call225 [(YE n).e] [] [] [] (ga n)
def c161(n:Nat):PF Tryz.prog 161 [.s,.sk [45]] (.s):=aM Tryz.func161 Tryz.call161 [(c225 n).e] [] [] [] (jc n)
end
end Go.Sh
