/- Each function of the program computes its plain function: the certificates.
   Conditions: none. Printed by the bench tool gen.py. -/
import Derived.Test.YthemneooekobkaaGreatDoorCeP
import Derived.Test.YthemneooekobkaaGreatDoorPShape
set_option linter.unusedVariables false
set_option linter.unusedSimpArgs false
set_option maxRecDepth 100000
set_option maxHeartbeats 4000000
namespace Go.Sh
open Go.Abs Go.Proofs
noncomputable section
abbrev q18:List PV:=[.p 2 0,.i .u8,.bd,.b,.s,.i .i64,.i .i64,.s,.s,.i .u8,.i .u8,.i .u8,.i .u8,.bd,.b,.s,.i .i64,.i .i64,.s,.s,.i .u8,.i .u8,.i .u8,.i .u8,.bd,.b,.s,.i .i64,.i .i64,.s,.s,.i .u8,.i .u8,.i .u8,.ws 0,.b,.b,.i .i64]
abbrev q45:List (Nat×PB):=[(1,.cells q18),(2,.cells q21)]
abbrev q41:List PV:=[.pn,.i .u8,.bd,.b,.s,.i .i64,.i .i64,.s,.s,.i .u8,.i .u8,.i .u8,.i .u8,.bd,.b,.s,.i .i64,.i .i64,.s,.s,.i .u8,.i .u8,.i .u8,.i .u8,.bd,.b,.s,.i .i64,.i .i64,.s,.s,.i .u8,.i .u8,.i .u8,.ws 0,.b,.b,.i .i64]
abbrev q32:List (Nat×PB):=[(1,.cells [.p 2 0,.i .u8,.bd,.b,.s,.i .i64,.i .i64,.s,.s,.i .u8,.i .u8,.i .u8,.i .u8,.bd,.b,.s,.i .i64,.i .i64,.s,.s,.i .u8,.i .u8,.i .u8,.i .u8,.bd,.b,.s,.i .i64,.i .i64,.s,.s,.i .u8,.i .u8,.i .u8,.rs 21 3 0 .q (some .q),.b,.b,.i .i64]),(2,.cells q21),(3,.rows q11)]
abbrev q35:List (Nat×PB):=[(1,.cells [.p 2 0,.i .u8,.bd,.b,.s,.i .i64,.i .i64,.s,.s,.i .u8,.i .u8,.i .u8,.i .u8,.bd,.b,.s,.i .i64,.i .i64,.s,.s,.i .u8,.i .u8,.i .u8,.i .u8,.bd,.b,.s,.i .i64,.i .i64,.s,.s,.i .u8,.i .u8,.i .u8,.ws 3,.b,.b,.i .i64]),(2,.cells q21),(3,.rows q11)]
abbrev q33:List PV:=[.i .u8,.b,.i .u16,.i .u8,.i .u8,.i .u8,.i .u8,.i .u8,.i .u8,.i .u8]
abbrev q69:List PX:=[⟨.ret,⟨[(2,.i .i64)],[],1,0,0,0⟩⟩,⟨.exit 0,⟨[],[],1,0,0,0⟩⟩]
abbrev q46:List (Nat×PB):=[(0,.ints .u8 3),(1,.ints .u8 3),(2,.ints .u8 3),(3,.ints .u8 3),(4,.ints .u8 3)]
abbrev q76:List (Nat×PB):=[(0,.cells q21),(1,.cells q15),(2,.ints .i64 3)]
abbrev q65:List PV:=[.ag q15,.i .i64,.i .i64]
abbrev q38:List PV:=[.s,.i .i64,.i .i64]
abbrev q67:List (Nat×PB):=[(0,.cells q22)]
abbrev q36:List (Nat×PB):=[(0,.ints .u8 3),(1,.ints .u8 3),(2,.ints .u8 3),(3,.ints .u8 3)]
abbrev q60:PSt:=⟨[(2,.i .i64),(3,.p 0 0),(4,.p 1 0),(6,.p 2 0),(7,.p 3 0),(8,.i .u8)],q36,4,0,0,0⟩
abbrev q13:List (Nat×PB):=[(0,.cells [.bk false,.bk false,.sk [],.ik .i64 0,.ik .i64 0,.sk [],.sk [],.ik .u8 0,.ik .u8 0,.ik .u8 0]),(1,.ints .i64 3),(2,.cells [.sk [],.ik .i64 0,.ik .i64 0]),(3,.cells [.b,.b,.s,.i .i64,.i .i64,.s,.s,.ik .u8 0,.ik .u8 0,.ik .u8 0]),(4,.ints .i64 3),(5,.ints .u8 3),(6,.ints .u8 3),(7,.cells q38)]
abbrev q23:PSt:=⟨[(0,.s),(4,.p 0 0),(5,.p 1 0),(6,.p 2 0),(7,.p 3 0),(8,.p 4 0),(9,.p 5 0),(10,.p 6 0),(11,.p 7 0),(12,.i .i64),(13,.i .i64)],q13,8,0,0,0⟩
abbrev q54:List (Nat×PV):=[(4,.p 0 0),(5,.p 1 0),(6,.p 2 0),(7,.p 3 0),(8,.p 4 0),(9,.p 5 0),(10,.p 6 0),(11,.p 7 0),(12,.i .i64)]
abbrev q48:List (Nat×PB):=[(0,.cells q15),(1,.rows [.i .i64]),(2,.rows [.i .i64,.i .i64,.i .i64])]
abbrev q64:PSt:=⟨[(1,.i .i64),(2,.p 0 0),(5,.ws 2),(6,.ws 1),(7,.i .i64)],q48,3,0,0,0⟩
def LI (_n:Nat):Ent:=iO9 63
theorem GK (n:Nat):fO Tryz.prog (LI n):=Jx Tryz.call63 LF
def c63 (n:Nat):FE Tryz.prog:=libF (GK n)
def K7 (n:Nat):LP Tryz.prog Tryz.f107.ntmps:=cY [] [] 0 (sb (acM [] [] Tryz.f107) 0) false ⟨[(0,.ws 0),(1,.s),(7,.i .i64),(8,.i .i64)],[(0,.rows [.s])],1,1,1,1⟩ [] q71 (be n) n
def RY (n:Nat):FF Tryz.prog 107 [.ws 0,.s] [.rows [.s]] 1 1 [⟨.i .i64,[],[],false⟩]:=funC Tryz.func107 Tryz.call107 [] [K7 n] [] [] [0] (dU n)
def c62 (n:Nat):FF Tryz.prog 62 [.ws 0,.s] [.rows [.s]] 1 1 [⟨.b,[],[],false⟩]:=funC Tryz.func62 Tryz.call62 [(RY n).e] [] [] [] [0] (cD n)
def Lq (_n:Nat):Ent:=M4 64
theorem GA (n:Nat):fO Tryz.prog (Lq n):=HF Tryz.call64 λs c w h1 h2 h3 h4=>Tryz.strings_ContainsAny_laid s c w h1 h2 h3 h4
def c64 (n:Nat):FE Tryz.prog:=libF (GA n)
def QP (n:Nat):PF Tryz.prog 111 [.s,.sk [89]] (.b):=aL Tryz.func111 Tryz.call111 [] [] [] [] (ee n)
def Tj (n:Nat):PF Tryz.prog 65 [.s,.sk [89]] (.b):=aL Tryz.func65 Tryz.call65 [(QP n).e] [] [] [] (ck n)
def c32 (n:Nat):PF Tryz.prog 32 [.s,.ag q27] (.i .i64):=aL Tryz.func32 Tryz.call32 [(c58 n).e,(c59 n),(c60 n).e,(c61 n).e,(c63 n),(c62 n).e,(c64 n),(Tj n).e] [] [] [] (gK n)
def c79 (n:Nat):FF Tryz.prog 79 [.p 1 0] [.rows q11,.cells q18,.cells q21] 1 3 [⟨.it 126 (.ag [.i .i64,.i .i64]),q45,[],true⟩,⟨.tp [.ag q27,.i .i64],q45,[],false⟩]:=funC Tryz.func79 Tryz.call79 [(c120 n).e,(c57 n).e,(c32 n).e,(Qm n).e] [] [] [] [1,2,0] (cO n)
def c80 (n:Nat):FF Tryz.prog 80 [.p 0 0,.ag q27,.i .i64] [.cells [.p 1 0,.i .u8,.bd,.b,.s,.i .i64,.i .i64,.s,.s,.i .u8,.i .u8,.i .u8,.i .u8,.bd,.b,.s,.i .i64,.i .i64,.s,.s,.i .u8,.i .u8,.i .u8,.i .u8,.bd,.b,.s,.i .i64,.i .i64,.s,.s,.i .u8,.i .u8,.i .u8,.ws 2,.b,.b,.i .i64],.cells q21,.rows q11] 3 3 [⟨.it 126 (.ag [.i .i64,.i .i64]),[],[],true⟩,⟨.ag [.i .u8,.bd,.b,.s,.i .i64,.i .i64,.s,.s,.i .u8,.i .u8,.i .u8],[],[],false⟩]:=funC Tryz.func80 Tryz.call80 [(c127 n).e,(c98 n).e] [] [] [] [0,1,2] (ch n)
def c77 (n:Nat):FF Tryz.prog 77 [.p 1 0] [.rows q11,.cells q18,.cells q21] 1 3 [⟨.tp [],q45,[],false⟩,⟨.it 126 (.ag [.i .i64,.i .i64]),q45,[],true⟩]:=funC Tryz.func77 Tryz.call77 [(c73 n).e,(Qm n).e,(c76 n).e,(c79 n).e,(c80 n).e,(c126 n).e,(c98 n).e] [] [] [] [1,2,0] (eK n)
def c39 (n:Nat):FF Tryz.prog 39 [.p 1 0,.p 2 0] [.rows q11,.cells q41,.cells q21] 1 3 [⟨.it 126 (.ag [.i .i64,.i .i64]),q45,[],true⟩,⟨.tp [],q32,[3],false⟩,⟨.tp [],q45,[],false⟩,⟨.tp [],q35,[3],false⟩]:=funC Tryz.func39 Tryz.call39 [(c73 n).e,(c74 n).e,(c75 n).e,(c76 n).e,(c77 n).e,(c78 n).e,(c79 n).e,(c80 n).e] [] [] [] [1,2,0] (gm n)
def c38 (n:Nat):FF Tryz.prog 38 [.s,.fn 1000039 [.p 1 0]] [.rows q11,.cells q41] 1 2 [⟨.tp [.i .i64,.i .i64],q45,[2],false⟩,⟨.tp [.i .i64,.i .i64],q32,[2,3],false⟩,⟨.tp [.i .i64,.i .i64],q35,[2,3],false⟩]:=funD ⟨(acM [] [] Tryz.f38),2,3,0,9,72,5⟩ Tryz.func38 Tryz.call38 Tryz.func72 Tryz.call72 [(c39 n).e] [] [] [] [1,0] (dC n) (by kernel_rfl) (by kernel_rfl) (by kernel_rfl) (by kernel_rfl)
def c13 (n:Nat):FF Tryz.prog 13 [.s] [] 0 0 [⟨.tp [.ag [.i .u8,.bd,.b,.s,.i .i64,.i .i64,.s,.s,.i .u8,.i .u8,.i .u8,.i .u8,.bd,.b,.s,.i .i64,.i .i64,.s,.s,.i .u8,.i .u8,.i .u8,.i .u8,.bd,.b,.s,.i .i64,.i .i64,.s,.s,.i .u8,.i .u8,.i .u8,.ws 0,.b,.b],.i .i64,.i .i64,.i .i64],[(0,.rows q11)],[0],false⟩,⟨.tp [.ag q20,.i .i64,.i .i64,.i .i64],[(0,.rows q11)],[0],false⟩]:=funC Tryz.func13 Tryz.call13 [(c38 n).e] [] [] [] [] (dG n)
def c7E (n:Nat):List (FE Tryz.prog):=[(c13 n).e]
def c7l0 (n:Nat):LP Tryz.prog Tryz.f7.ntmps:=cY (c7E n) [] 0 (sb (acM [] [] Tryz.f7) 0) true ⟨[(1,.ws 0),(2,.ws 1),(3,.i .i64)],[(0,.rows [.s]),(1,.rows [.i .i64])],2,0,0,0⟩ [] [⟨.ret,⟨[(0,.b)],[],0,0,0,0⟩⟩,⟨.exit 0,q61⟩] (lM n) n
def c7l1 (n:Nat):LP Tryz.prog Tryz.f7.ntmps:=cY (c7E n) [] 1 (sb (acM [] [] Tryz.f7) 1) true ⟨[(8,.ws 0),(9,.ws 1),(10,.i .i64)],[(0,.rows [.s]),(1,.rows [.i .i64])],2,0,0,0⟩ [] [⟨.ret,⟨[(0,.b)],[],0,0,0,0⟩⟩,⟨.exit 2,q61⟩] (lA n) n
def c7 (n:Nat):PF Tryz.prog 7 [] (.b):=aL Tryz.func7 Tryz.call7 (c7E n) [c7l0 n,c7l1 n] [] [] (iR n)
def c52 (n:Nat):PF Tryz.prog 52 [.i .u16] (.s):=aL Tryz.func52 Tryz.call52 [] [] [] [] (jJ n)
def SR (n:Nat):LP Tryz.prog Tryz.f92.ntmps:=cY [] [] 0 (sb (acM [] [] Tryz.f92) 0) false ⟨[(0,.s),(1,.i .u8),(2,.i .u8),(7,.i .i64),(8,.i .i64)],[],0,0,0,0⟩ [] [⟨.exit 0,⟨[(7,.i .i64)],[],0,0,0,0⟩⟩] (fN n) n
def c92 (n:Nat):PF Tryz.prog 92 [.s,.i .u8,.i .u8] (.i .i64):=aL Tryz.func92 Tryz.call92 [] [SR n] [] [] (fw n)
def SY (n:Nat):LP Tryz.prog Tryz.f93.ntmps:=cY [] [] 0 (sb (acM [] [] Tryz.f93) 0) false ⟨[(0,.s),(1,.i .i64),(6,.i .i64),(7,.i .i64)],[],0,0,0,0⟩ [] [⟨.ret,⟨[(4,.i .i64),(5,.i .i64)],[],0,0,0,0⟩⟩,⟨.exit 0,⟨[(6,.i .i64)],[],0,0,0,0⟩⟩] (ed n) n
def c93 (n:Nat):PF Tryz.prog 93 q21 (.tp [.i .i64,.i .i64]):=aL Tryz.func93 Tryz.call93 [] [SY n] [] [] (ak n)
def c53 (n:Nat):PF Tryz.prog 53 q80 (.i .i64):=aL Tryz.func53 Tryz.call53 [(c92 n).e,(c93 n).e] [] [] [] (ca n)
def c27E (n:Nat):List (FE Tryz.prog):=[(c52 n).e,(c53 n).e]
def S7 (n:Nat):LP Tryz.prog Tryz.f27.ntmps:=cY (c27E n) [] 0 (sb (acM [] [] Tryz.f27) 0) false ⟨[(2,.p 1 0),(3,.p 50 0),(4,.i .i64),(5,.i .i64),(6,.s),(7,.i .i64)],[(1,.cells q22),(50,.cells q22)],162,0,0,0⟩ [] [⟨.exit 1,⟨[(2,.p 1 0),(3,.p 50 0),(6,.s)],[(1,.cells q22),(50,.cells q22)],162,0,0,0⟩⟩] (e7 n) n
def c27 (n:Nat):PF Tryz.prog 27 [.ag [.i .u8,.b,.i .u16,.i .u8,.i .u8]] (.ag q22):=aL Tryz.func27 Tryz.call27 (c27E n) [S7 n] [] [] (ij n)
def c54 (n:Nat):PF Tryz.prog 54 [.i .i64] (.s):=aL Tryz.func54 Tryz.call54 [] [] [] [] (aO n)
def c28 (n:Nat):PF Tryz.prog 28 [.ag q33] (.s):=aL Tryz.func28 Tryz.call28 [(c54 n).e] [] [] [] (fj n)
def c29E (n:Nat):List (FE Tryz.prog):=[(c54 n).e]
def Tn (n:Nat):LP Tryz.prog Tryz.f29.ntmps:=cY (c29E n) [] 0 (sb (acM [] [] Tryz.f29) 0) false ⟨[(1,.p 0 0),(3,.i .i64)],[(0,.cells q15)],1,0,0,0⟩ [] q69 (bC n) n
def c29 (n:Nat):PF Tryz.prog 29 q56 (.i .i64):=aL Tryz.func29 Tryz.call29 (c29E n) [Tn n] [] [] (aN n)
def c30 (n:Nat):PF Tryz.prog 30 [.ag q33,.s] (.s):=aL Tryz.func30 Tryz.call30 [(c54 n).e] [] [] [] (gA n)
def c23 (n:Nat):PF Tryz.prog 23 q56 (.i .i64):=aL Tryz.func23 Tryz.call23 [] [] [] [] (au n)
def c9 (n:Nat):PF Tryz.prog 9 [.ag q33] (.ag q15):=aL Tryz.func9 Tryz.call9 [(c27 n).e,(c28 n).e,(c29 n).e,(c30 n).e,(c23 n).e] [] [0] [] (fP n)
def SS (n:Nat):LP Tryz.prog Tryz.f24.ntmps:=cY [] [] 0 (sb (acM [] [] Tryz.f24) 0) false ⟨[(1,.i .i64),(2,.p 0 0),(4,.p 1 0),(5,.p 2 0),(6,.p 3 0),(7,.p 4 0),(8,.b),(9,.i .i64)],q46,5,0,0,0⟩ [] [⟨.exit 0,⟨[(1,.i .i64),(2,.p 0 0),(4,.p 1 0),(5,.p 2 0),(6,.p 3 0),(7,.p 4 0),(8,.b)],q46,5,0,0,0⟩⟩] (lD n) n
def TJ (n:Nat):LP Tryz.prog Tryz.f24.ntmps:=cY [] [] 1 (sb (acM [] [] Tryz.f24) 1) false ⟨[(1,.i .i64),(2,.p 0 0),(4,.p 1 0),(5,.p 2 0),(6,.p 3 0),(7,.p 4 0),(10,.i .i64)],q46,5,0,0,0⟩ [] [⟨.exit 2,⟨[(4,.p 1 0),(5,.p 2 0),(6,.p 3 0),(7,.p 4 0)],[(1,.ints .u8 3),(2,.ints .u8 3),(3,.ints .u8 3),(4,.ints .u8 3)],5,0,0,0⟩⟩] (lu n) n
def c24 (n:Nat):PF Tryz.prog 24 q74 (.tp [.ai .u8 3,.ai .u8 3]):=aL Tryz.func24 Tryz.call24 [] [SS n,TJ n] [] [] (iS n)
def c25 (n:Nat):PF Tryz.prog 25 [.i .u8] (.s):=aL Tryz.func25 Tryz.call25 [] [] [] [] (bY n)
def c51 (n:Nat):PF Tryz.prog 51 [.i .i64] (.s):=aL Tryz.func51 Tryz.call51 [] [] [] [] (aG n)
def c26 (n:Nat):PF Tryz.prog 26 q80 (.s):=aL Tryz.func26 Tryz.call26 [(c51 n).e] [] [] [] (ju n)
def c8 (n:Nat):PF Tryz.prog 8 q56 (.s):=aL Tryz.func8 Tryz.call8 [(c23 n).e,(c24 n).e,(c25 n).e,(c26 n).e] [] [] [] (aZ n)
def c94 (n:Nat):FF Tryz.prog 94 [.p 0 0,.p 1 0,.p 2 0] [.cells q21,.cells q15,.ints .i64 3] 0 3 [⟨.it 126 (.ag [.i .i64,.i .i64]),q76,[],true⟩,⟨.tp [],q76,[],false⟩]:=funC Tryz.func94 Tryz.call94 [(c95 n).e] [] [] [] [0,1,2] (jU n)
def TN (n:Nat):FF Tryz.prog 38 [.s,.fn 94 q75] [.cells q15,.ints .i64 3] 0 2 [⟨.tp [.i .i64,.i .i64],[(0,.cells q15),(1,.ints .i64 3)],[],false⟩]:=funD ⟨(acM [] [] Tryz.f38),2,3,0,9,72,5⟩ Tryz.func38 Tryz.call38 Tryz.func72 Tryz.call72 [(c94 n).e] [] [] [] [0,1] (dV n) (by kernel_rfl) (by kernel_rfl) (by kernel_rfl) (by kernel_rfl)
def c55 (n:Nat):PF Tryz.prog 55 [.s] (.tp q65):=aL Tryz.func55 Tryz.call55 [(TN n).e,(c96 n).e] [] [] [] (gZ n)
def c56 (n:Nat):FF Tryz.prog 56 [.p 0 0] q53 0 1 [⟨.it 126 (.ag [.i .i64,.i .i64]),q34,[],true⟩,⟨.tp [],q34,[],false⟩]:=funC Tryz.func56 Tryz.call56 [(c57 n).e] [] [] [] [0] (kO n)
def SL (n:Nat):FF Tryz.prog 38 [.s,.fn 56 []] [] 0 0 [⟨.tp [.i .i64,.i .i64],[],[],false⟩]:=funD ⟨(acM [] [] Tryz.f38),2,3,0,9,72,5⟩ Tryz.func38 Tryz.call38 Tryz.func72 Tryz.call72 [(c56 n).e] [] [] [] [] (eD n) (by kernel_rfl) (by kernel_rfl) (by kernel_rfl) (by kernel_rfl)
def c31 (n:Nat):PF Tryz.prog 31 [.s] (.tp q65):=aL Tryz.func31 Tryz.call31 [(c55 n).e,(SL n).e] [] [] [] (ko n)
def c10 (n:Nat):PF Tryz.prog 10 [.s] (.tp [.i .i64,.i .i64]):=aL Tryz.func10 Tryz.call10 [(c31 n).e,(c32 n).e] [] [] [] (iz n)
def c36E (n:Nat):List (FE Tryz.prog):=[(c25 n).e]
def TK (n:Nat):LP Tryz.prog Tryz.f36.ntmps:=cY (c36E n) [] 0 (sb (acM [] [] Tryz.f36) 0) false ⟨[(0,.i .u8),(3,.i .u8)],[],0,0,0,0⟩ [] [⟨.ret,⟨[(2,.i .u8)],[],0,0,0,0⟩⟩,⟨.exit 0,q61⟩] (nU n) n
def c36 (n:Nat):PF Tryz.prog 36 [.i .u8] (.i .u8):=aL Tryz.func36 Tryz.call36 (c36E n) [TK n] [] [] (dc n)
def c68 (n:Nat):PF Tryz.prog 68 [.ag q38] (.tp [.i .u8,.ag q38]):=aL Tryz.func68 Tryz.call68 [(c36 n).e] [] [] [] (dL n)
def c118 (n:Nat):PF Tryz.prog 118 [.s,.i .i64,.i .u8] (.tp [.i .i64,.i .i64]):=aL Tryz.func118 Tryz.call118 [] [] [] [] (ah n)
def c69E (n:Nat):List (FE Tryz.prog):=[(c118 n).e]
def Ti (n:Nat):LP Tryz.prog Tryz.f69.ntmps:=cY (c69E n) [] 0 (sb (acM [] [] Tryz.f69) 0) false ⟨[(0,.s),(4,.p 0 0),(7,.p 1 0),(8,.i .i64),(9,.i .i64),(10,.i .i64)],[(0,.cells q22),(1,.cells q22)],2,0,0,0⟩ [] [⟨.ret,⟨[(4,.p 0 0),(5,.i .i64),(6,.i .i64)],q67,2,0,0,0⟩⟩,⟨.exit 0,⟨[(0,.s),(4,.p 0 0),(7,.p 1 0),(8,.i .i64),(9,.i .i64)],[(0,.cells q22),(1,.cells q22)],2,0,0,0⟩⟩] (ay n) n
def c69 (n:Nat):PF Tryz.prog 69 q21 (.tp [.ag q22,.i .i64,.i .i64]):=aL Tryz.func69 Tryz.call69 (c69E n) [Ti n] [] [] (jq n)
def TP (n:Nat):LP Tryz.prog Tryz.f70.ntmps:=cY [] [] 0 (sb (acM [] [] Tryz.f70) 0) false ⟨[(1,.p 0 0),(3,.p 1 0),(4,.i .i64),(5,.i .i64)],[(0,.cells q38),(1,.cells q38)],2,0,0,0⟩ [] [⟨.ret,⟨[(2,.s),(3,.p 1 0)],[(1,.cells q38)],2,0,0,0⟩⟩,⟨.exit 0,⟨[(1,.p 0 0),(3,.p 1 0),(4,.i .i64)],[(0,.cells q38),(1,.cells q38)],2,0,0,0⟩⟩] (fS n) n
def c70 (n:Nat):PF Tryz.prog 70 [.ag q38] (.tp [.s,.ag q38]):=aL Tryz.func70 Tryz.call70 [] [TP n] [] [] (iI n)
def c119 (n:Nat):PF Tryz.prog 119 [.i .u8,.i .u8] (.i .i64):=aL Tryz.func119 Tryz.call119 [] [] [] [] (gF n)
def c71E (n:Nat):List (FE Tryz.prog):=[(c119 n).e]
def To (n:Nat):LP Tryz.prog Tryz.f71.ntmps:=cY (c71E n) [] 2 (sb (sb (sb (acM [] [] Tryz.f71) 0).body 1).body 2) false ⟨[(2,.i .i64),(3,.p 0 0),(4,.p 1 0),(6,.p 2 0),(7,.p 3 0),(8,.i .u8),(9,.i .i64),(10,.i .i64),(11,.i .i64)],q36,4,0,0,0⟩ [] [⟨.exit 4,⟨[(2,.i .i64),(3,.p 0 0),(4,.p 1 0),(6,.p 2 0),(7,.p 3 0),(8,.i .u8),(9,.i .i64),(10,.i .i64)],q36,4,0,0,0⟩⟩] (bP n) n
def TG (n:Nat):LP Tryz.prog Tryz.f71.ntmps:=cY (c71E n) [To n] 1 (sb (sb (acM [] [] Tryz.f71) 0).body 1) false ⟨[(2,.i .i64),(3,.p 0 0),(4,.p 1 0),(6,.p 2 0),(7,.p 3 0),(8,.i .u8),(9,.i .i64)],q36,4,0,0,0⟩ [] [⟨.exit 2,q60⟩] (bn n) n
def TQ (n:Nat):LP Tryz.prog Tryz.f71.ntmps:=cY (c71E n) [TG n] 0 (sb (acM [] [] Tryz.f71) 0) false q60 [] [⟨.exit 0,⟨[(6,.p 2 0),(7,.p 3 0)],[(2,.ints .u8 3),(3,.ints .u8 3)],4,0,0,0⟩⟩] (ci n) n
def c71 (n:Nat):PF Tryz.prog 71 [.ai .u8 3,.ai .u8 3,.i .i64] (.ai .u8 3):=aL Tryz.func71 Tryz.call71 (c71E n) [TQ n] [] [] (dB n)
def c35E (n:Nat):List (FE Tryz.prog):=[(c68 n).e,(c69 n).e,(c70 n).e,(c71 n).e]
def QW (n:Nat):LP Tryz.prog Tryz.f35.ntmps:=pL (c35E n) [] 1013 (sb (sb (sb (acM [] [12,13,21,24] Tryz.f35) 0).body 1012) 1013) false q23 [⟨.nrm,⟨[(0,.s),(4,.p 0 0),(5,.p 1 0),(6,.p 2 0),(7,.p 3 0),(8,.p 4 0),(9,.p 5 0),(10,.p 6 0),(11,.p 7 0),(12,.i .i64),(13,.i .i64),(40,.b)],q13,8,0,0,0⟩⟩] (gp n)
def Qq (n:Nat):LP Tryz.prog Tryz.f35.ntmps:=pL (c35E n) [QW n] 1012 (sb (sb (acM [] [12,13,21,24] Tryz.f35) 0).body 1012) false ⟨[(0,.s),(4,.p 0 0),(5,.p 1 0),(6,.p 2 0),(7,.p 3 0),(8,.p 4 0),(9,.p 5 0),(10,.p 6 0),(11,.p 7 0),(12,.i .i64),(13,.i .i64),(22,.b)],q13,8,0,0,0⟩ [⟨.exit 0,⟨q54,q13,8,0,0,0⟩⟩,⟨.nrm,q23⟩] (eN n)
def Qn (n:Nat):LP Tryz.prog Tryz.f35.ntmps:=pL (c35E n) [] 1024 (sb (sb (sb (acM [] [12,13,21,24] Tryz.f35) 0).body 1021) 1024) false ⟨[(0,.s),(4,.p 0 0),(5,.p 1 0),(6,.p 2 0),(7,.p 3 0),(8,.p 4 0),(9,.p 5 0),(10,.p 6 0),(11,.p 7 0),(12,.i .i64),(13,.i .i64),(76,.b)],q13,8,0,0,0⟩ [⟨.nrm,q23⟩] (fY n)
def SA (n:Nat):LP Tryz.prog Tryz.f35.ntmps:=pL (c35E n) [Qn n] 1021 (sb (sb (acM [] [12,13,21,24] Tryz.f35) 0).body 1021) false ⟨[(0,.s),(4,.p 0 0),(5,.p 1 0),(6,.p 2 0),(7,.p 3 0),(8,.p 4 0),(9,.p 5 0),(10,.p 6 0),(11,.p 7 0),(12,.i .i64),(13,.i .i64),(56,.i .i64),(63,.b)],q13,8,0,0,0⟩ [⟨.nrm,q23⟩] (eS n)
def SX (n:Nat):LP Tryz.prog Tryz.f35.ntmps:=cY (c35E n) [Qq n,SA n] 0 (sb (acM [] [12,13,21,24] Tryz.f35) 0) false q23 [] [⟨.exit 0,⟨q54,[(0,.cells q15),(1,.ints .i64 3),(2,.cells q38),(3,.cells q15),(4,.ints .i64 3),(5,.ints .u8 3),(6,.ints .u8 3),(7,.cells q38)],8,0,0,0⟩⟩,⟨.ret,⟨[(4,.p 0 0),(5,.p 1 0),(6,.p 2 0)],[(0,.cells q15),(1,.ints .i64 3),(2,.cells q38)],8,0,0,0⟩⟩] (aV n) n
def c35 (n:Nat):PF Tryz.prog 35 q21 (.tp [.ag q15,.ai .i64 3,.ag q38]):=aL Tryz.func35 Tryz.call35 (c35E n) [SX n] [] [12,13,21,24] (eT n)
def c172 (n:Nat):PF Tryz.prog 172 q80 (.i .i64):=aL Tryz.func172 Tryz.call172 [(c92 n).e] [] [] [] (aD n)
def c112 (n:Nat):PF Tryz.prog 112 q56 (.i .i64):=aL Tryz.func112 Tryz.call112 [(c53 n).e,(c29 n).e,(c172 n).e,(c93 n).e] [] [] [] (ib n)
def c173 (n:Nat):PF Tryz.prog 173 q21 (.i .i64):=aL Tryz.func173 Tryz.call173 [(c54 n).e] [] [] [] (dA n)
def SB (n:Nat):List (FE Tryz.prog):=[(c173 n).e]
def Sm (n:Nat):LP Tryz.prog Tryz.f113.ntmps:=cY (SB n) [] 0 (sb (acM [] [] Tryz.f113) 0) false q79 [] [⟨.ret,⟨q57,[],0,0,0,0⟩⟩,⟨.exit 0,q61⟩] (da n) n
def c113 (n:Nat):PF Tryz.prog 113 q21 (.i .i64):=aL Tryz.func113 Tryz.call113 (SB n) [Sm n] [] [] (dh n)
def Qj (n:Nat):LP Tryz.prog Tryz.f114.ntmps:=cY [] [] 0 (sb (acM [] [] Tryz.f114) 0) false ⟨[(1,.i .i64),(2,.p 0 0),(5,.i .i64)],[(0,.ints .u8 3)],1,0,0,0⟩ [] q72 (cS n) n
def c114 (n:Nat):PF Tryz.prog 114 q74 (.i .i64):=aL Tryz.func114 Tryz.call114 [] [Qj n] [] [] (bF n)
def c66 (n:Nat):PF Tryz.prog 66 q56 (.i .i64):=aL Tryz.func66 Tryz.call66 [(c112 n).e,(c29 n).e,(c113 n).e,(c23 n).e,(c114 n).e] [] [] [] (gz n)
def c33 (n:Nat):PF Tryz.prog 33 [.s] (.tp q65):=aL Tryz.func33 Tryz.call33 [(c35 n).e,(c66 n).e] [] [] [] (gB n)
def O8 (n:Nat):List (FE Tryz.prog):=[(c172 n).e,(c93 n).e]
def QM (n:Nat):LP Tryz.prog Tryz.f115.ntmps:=cY (O8 n) [] 0 (sb (acM [] [] Tryz.f115) 0) false ⟨[(1,.p 0 0),(4,.s),(5,.s),(6,.i .i64)],q67,1,0,0,0⟩ [] [⟨.exit 0,⟨[(1,.p 0 0),(4,.s),(5,.s)],q67,1,0,0,0⟩⟩] (fc n) n
def QV (n:Nat):LP Tryz.prog Tryz.f115.ntmps:=cY (O8 n) [] 1 (sb (acM [] [] Tryz.f115) 1) false ⟨[(1,.p 0 0),(4,.s),(5,.s),(9,.i .i64)],q67,1,0,0,0⟩ [] [⟨.exit 2,⟨[(1,.p 0 0),(4,.s),(5,.s)],q67,1,0,0,0⟩⟩] (lU n) n
def c115 (n:Nat):PF Tryz.prog 115 q80 (.tp [.i .i64,.i .i64]):=aL Tryz.func115 Tryz.call115 (O8 n) [QM n,QV n] [] [] (aI n)
def Qf (n:Nat):List (FE Tryz.prog):=[(c172 n).e,(c93 n).e]
def Rb (n:Nat):LP Tryz.prog Tryz.f116.ntmps:=cY (Qf n) [] 0 (sb (acM [] [] Tryz.f116) 0) false ⟨[(1,.i .i64),(2,.p 0 0),(5,.i .i64)],q67,1,0,0,0⟩ [] [⟨.ret,⟨q57,[],1,0,0,0⟩⟩,⟨.exit 0,⟨[(1,.i .i64)],[],1,0,0,0⟩⟩] (bE n) n
def c116 (n:Nat):PF Tryz.prog 116 [.ag q22,.i .i64] (.i .i64):=aL Tryz.func116 Tryz.call116 (Qf n) [Rb n] [] [] (lk n)
def R7 (n:Nat):List (FE Tryz.prog):=[(c29 n).e,(c173 n).e]
def RR (n:Nat):LP Tryz.prog Tryz.f174.ntmps:=cY (R7 n) [] 0 (sb (acM [] [] Tryz.f174) 0) false ⟨[(1,.p 0 0),(3,.ws 1),(4,.i .i64)],[(0,.cells q15),(1,.rows [.i .i64])],2,0,0,0⟩ [.nilT 3 1 [.i .i64]] [⟨.exit 0,⟨[(3,.ws 1)],[(1,.rows [.i .i64])],2,0,0,0⟩⟩] (dm n) n
def c174 (n:Nat):FF Tryz.prog 174 q56 [] 0 0 [⟨.ws 0,q50,[0],false⟩]:=funC Tryz.func174 Tryz.call174 (R7 n) [RR n] [] [] [] (iy n)
def c175 (n:Nat):PF Tryz.prog 175 [.i .i64,.i .i64] (.i .i64):=aL Tryz.func175 Tryz.call175 [] [] [] [] (ks n)
def O5 (n:Nat):List (FE Tryz.prog):=[(c174 n).e,(c175 n).e,(c173 n).e]
def Rx (n:Nat):LP Tryz.prog Tryz.f117.ntmps:=cY (O5 n) [] 1 (sb (sb (acM [] [] Tryz.f117) 0).body 1) false ⟨[(1,.i .i64),(2,.p 0 0),(5,.ws 2),(6,.ws 1),(7,.i .i64),(8,.i .i64)],q48,3,0,0,0⟩ [] [⟨.exit 2,q64⟩] (dP n) n
def SI (n:Nat):LP Tryz.prog Tryz.f117.ntmps:=cY (O5 n) [Rx n] 0 (sb (acM [] [] Tryz.f117) 0) false q64 [.nilT 5 2 [.i .i64,.i .i64,.i .i64]] [⟨.exit 0,⟨[(5,.ws 2)],[(2,.rows [.i .i64,.i .i64,.i .i64])],3,0,0,0⟩⟩] (dQ n) n
def c117 (n:Nat):FF Tryz.prog 117 [.ag q15,.i .i64] [] 0 0 [⟨.ws 0,[(0,.rows [.i .i64,.i .i64,.i .i64])],[0],false⟩]:=funC Tryz.func117 Tryz.call117 (O5 n) [SI n] [] [] [] (jC n)
def c67E (n:Nat):List (FE Tryz.prog):=[(c115 n).e,(c116 n).e,(c117 n).e]
def SK (n:Nat):LP Tryz.prog Tryz.f67.ntmps:=cY (c67E n) [] 0 (sb (acM [] [] Tryz.f67) 0) false ⟨[(1,.p 0 0),(4,.i .i64),(5,.i .i64)],[(0,.cells q15)],1,0,0,0⟩ [] q69 (fi n) n
def c67 (n:Nat):PF Tryz.prog 67 q56 (.i .i64):=aL Tryz.func67 Tryz.call67 (c67E n) [SK n] [] [] (js n)
def c34 (n:Nat):PF Tryz.prog 34 q56 (.i .i64):=aL Tryz.func34 Tryz.call34 [(c66 n).e,(c67 n).e] [] [] [] (iV n)
def c11 (n:Nat):PF Tryz.prog 11 [.s] (.tp q65):=aL Tryz.func11 Tryz.call11 [(c33 n).e,(c34 n).e,(c35 n).e] [] [] [] (iQ n)
def Tu (n:Nat):LP Tryz.prog Tryz.f37.ntmps:=cY [] [] 0 (sb (acM [] [] Tryz.f37) 0) true ⟨[(0,.s),(1,.s),(5,.i .i64)],[],0,0,0,0⟩ [] [⟨.ret,⟨q57,[],0,0,0,0⟩⟩,⟨.exit 0,q61⟩] (de n) n
def c37 (n:Nat):PF Tryz.prog 37 [.s,.s] (.i .i64):=aL Tryz.func37 Tryz.call37 [] [Tu n] [] [] (aQ n)
def c12E (n:Nat):List (FE Tryz.prog):=[(c35 n).e,(c36 n).e,(c29 n).e,(c37 n).e]
def Tq (n:Nat):LP Tryz.prog Tryz.f12.ntmps:=cY (c12E n) [] 0 (sb (acM [] [] Tryz.f12) 0) true ⟨[(0,.s),(3,.p 0 0),(6,.i .i64),(7,.i .i64),(8,.i .i64)],[(0,.cells q27)],1,0,0,0⟩ [] [⟨.ret,⟨[(2,.i .i64)],[],0,0,0,0⟩⟩,⟨.exit 0,⟨[(0,.s),(3,.p 0 0),(6,.i .i64),(7,.i .i64)],[(0,.cells q27)],1,0,0,0⟩⟩] (cr n) n
def c12 (n:Nat):PF Tryz.prog 12 [.s] (.i .i64):=aL Tryz.func12 Tryz.call12 (c12E n) [Tq n] [] [] (ba n)
def c3E (n:Nat):List (FE Tryz.prog):=[(c7 n).e,(c9 n).e,(c8 n).e,(c10 n).e,(c11 n).e,(c12 n).e,(c13 n).e]
def c3l0 (n:Nat):LP Tryz.prog Tryz.f3.ntmps:=cY (c3E n) [] 0 (sb (acM [] [] Tryz.f3) 0) true ⟨[(5,.ws 0),(6,.i .i64)],[(0,.rows [.s])],1,0,0,0⟩ [] q81 (bK n) n
def c3 (n:Nat):PF Tryz.prog 3 [.ag q33,.s] (.b):=aL Tryz.func3 Tryz.call3 (c3E n) [c3l0 n] [] [] (ej n)
theorem pure_circalaw20_ParsersLevel (n:Nat):∀a r,ej n a.1 a.2.1 a.2.2.1 a.2.2.2.1 a.2.2.2.2.1 a.2.2.2.2.2.1 a.2.2.2.2.2.2.1 a.2.2.2.2.2.2.2.1 a.2.2.2.2.2.2.2.2.1 a.2.2.2.2.2.2.2.2.2.1 a.2.2.2.2.2.2.2.2.2.2=some r->jP Tryz.prog 3 (argP [.ag q33,.s] a) (encP (.b) r):=λa r h=>(c3 n).ok a r h
end
end Go.Sh
