import Derived.Test.YtadejcglcffgbacGreatDoorCeF
import Derived.Test.YtadejcglcffgbacGreatDoorPShape
set_option linter.unusedVariables false
set_option linter.unusedSimpArgs false
set_option maxRecDepth 100000
set_option maxHeartbeats 4000000
namespace Go.Sh
open Go.Abs Go.Proofs
noncomputable section
abbrev q18:List PV:=[.p 2 0,.i .u8,.bd,.b,.s,.i .i64,.i .i64,.s,.s,.i .u8,.i .u8,.i .u8,.i .u8,.bd,.b,.s,.i .i64,.i .i64,.s,.s,.i .u8,.i .u8,.i .u8,.i .u8,.bd,.b,.s,.i .i64,.i .i64,.s,.s,.i .u8,.i .u8,.i .u8,.ws 0,.b,.b,.i .i64]
abbrev q50:List (Nat×PB):=[(1,.cells q18),(2,.cells q21)]
abbrev q41:List PV:=[.pn,.i .u8,.bd,.b,.s,.i .i64,.i .i64,.s,.s,.i .u8,.i .u8,.i .u8,.i .u8,.bd,.b,.s,.i .i64,.i .i64,.s,.s,.i .u8,.i .u8,.i .u8,.i .u8,.bd,.b,.s,.i .i64,.i .i64,.s,.s,.i .u8,.i .u8,.i .u8,.ws 0,.b,.b,.i .i64]
abbrev q33:List (Nat×PB):=[(1,.cells [.p 2 0,.i .u8,.bd,.b,.s,.i .i64,.i .i64,.s,.s,.i .u8,.i .u8,.i .u8,.i .u8,.bd,.b,.s,.i .i64,.i .i64,.s,.s,.i .u8,.i .u8,.i .u8,.i .u8,.bd,.b,.s,.i .i64,.i .i64,.s,.s,.i .u8,.i .u8,.i .u8,.rs 21 3 0 .q (some .q),.b,.b,.i .i64]),(2,.cells q21),(3,.rows q11)]
abbrev q35:List (Nat×PB):=[(1,.cells [.p 2 0,.i .u8,.bd,.b,.s,.i .i64,.i .i64,.s,.s,.i .u8,.i .u8,.i .u8,.i .u8,.bd,.b,.s,.i .i64,.i .i64,.s,.s,.i .u8,.i .u8,.i .u8,.i .u8,.bd,.b,.s,.i .i64,.i .i64,.s,.s,.i .u8,.i .u8,.i .u8,.ws 3,.b,.b,.i .i64]),(2,.cells q21),(3,.rows q11)]
abbrev q14:List PV:=[.i .u8,.bd,.b,.s,.i .i64,.i .i64,.s,.s,.i .u8,.i .u8,.i .u8,.i .u8,.bd,.b,.s,.i .i64,.i .i64,.s,.s,.i .u8,.i .u8,.i .u8,.i .u8,.bd,.b,.s,.i .i64,.i .i64,.s,.s,.i .u8,.i .u8,.i .u8,.ws 0,.b,.b]
abbrev q78:List PV:=[.ag q14]
abbrev q47:List PV:=[.i .u8,.bd,.b,.s,.i .i64,.i .i64,.s,.s,.i .u8,.i .u8,.i .u8,.i .u8,.bd,.b,.s,.i .i64,.i .i64,.s,.s,.i .u8,.i .u8,.i .u8,.i .u8,.bd,.b,.s,.i .i64,.i .i64,.s,.s,.i .u8,.i .u8,.i .u8,.ws 2,.b,.b]
abbrev q66:PSt:=⟨[(0,.sl 0 0 .q (some .q)),(3,.i .u8),(4,.i .i64)],[(0,.ints .u8 3)],1,1,1,1⟩
def Dy(_n:Nat):Ent:=CW 207
theorem Cb(n:Nat):cN Tryz.prog (Dy n):=EA Tryz.call207 Gj
def c207(n:Nat):FE Tryz.prog:=libF (Cb n)
def GU(n:Nat):LP Tryz.prog Tryz.f250.ntmps:=cr [] [] 0 (sb (acM [] [] Tryz.f250) 0) false ⟨[(0,.ws 0),(1,.s),(7,.i .i64),(8,.i .i64)],[(0,.rows [.s])],1,1,1,1⟩ [] q71 (ee n) n
def M1(n:Nat):FF Tryz.prog 250 [.ws 0,.s] [.rows [.s]] 1 1 [⟨.i .i64,[],[],false⟩]:=funC Tryz.func250 Tryz.call250 [] [GU n] [] [] [0] (fj n)
def c206(n:Nat):FF Tryz.prog 206 [.ws 0,.s] [.rows [.s]] 1 1 [⟨.b,[],[],false⟩]:=funC Tryz.func206 Tryz.call206 [(M1 n).e] [] [] [] [0] (fh n)
def C2(_n:Nat):Ent:=IV 208
theorem BS(n:Nat):cN Tryz.prog (C2 n):=FN Tryz.call208 λs c w h1 h2 h3 h4=>Tryz.strings_ContainsAny_laid s c w h1 h2 h3 h4
def c208(n:Nat):FE Tryz.prog:=libF (BS n)
def LD(n:Nat):PF Tryz.prog 126 [.s,.sk [89]] (.b):=aB Tryz.func126 Tryz.call126 [] [] [] [] (fK n)
def Ln(n:Nat):PF Tryz.prog 129 [.s,.sk [89]] (.b):=aB Tryz.func129 Tryz.call129 [(LD n).e] [] [] [] (db n)
def c154(n:Nat):PF Tryz.prog 154 [.s,.ag q24] (.i .i64):=aB Tryz.func154 Tryz.call154 [(c51 n).e,(c204 n),(c205 n).e,(c63 n).e,(c207 n),(c206 n).e,(c208 n),(Ln n).e] [] [] [] (ux n)
def c101(n:Nat):FF Tryz.prog 101 [.p 1 0] [.rows q11,.cells q18,.cells q21] 1 3 [⟨.it 161 (.ag [.i .i64,.i .i64]),q50,[],true⟩,⟨.tp [.ag q24,.i .i64],q50,[],false⟩]:=funC Tryz.func101 Tryz.call101 [(c145 n).e,(c150 n).e,(c154 n).e,(MF n).e] [] [] [] [1,2,0] (eS n)
def c102(n:Nat):FF Tryz.prog 102 [.p 0 0,.ag q24,.i .i64] [.cells [.p 1 0,.i .u8,.bd,.b,.s,.i .i64,.i .i64,.s,.s,.i .u8,.i .u8,.i .u8,.i .u8,.bd,.b,.s,.i .i64,.i .i64,.s,.s,.i .u8,.i .u8,.i .u8,.i .u8,.bd,.b,.s,.i .i64,.i .i64,.s,.s,.i .u8,.i .u8,.i .u8,.ws 2,.b,.b,.i .i64],.cells q21,.rows q11] 3 3 [⟨.it 161 (.ag [.i .i64,.i .i64]),[],[],true⟩,⟨.ag [.i .u8,.bd,.b,.s,.i .i64,.i .i64,.s,.s,.i .u8,.i .u8,.i .u8],[],[],false⟩]:=funC Tryz.func102 Tryz.call102 [(c155 n).e,(c148 n).e] [] [] [] [0,1,2] (ej n)
def c99(n:Nat):FF Tryz.prog 99 [.p 1 0] [.rows q11,.cells q18,.cells q21] 1 3 [⟨.tp [],q50,[],false⟩,⟨.it 161 (.ag [.i .i64,.i .i64]),q50,[],true⟩]:=funC Tryz.func99 Tryz.call99 [(c95 n).e,(MF n).e,(c98 n).e,(c101 n).e,(c102 n).e,(c153 n).e,(c148 n).e] [] [] [] [1,2,0] (f8 n)
def c58(n:Nat):FF Tryz.prog 58 [.p 1 0,.p 2 0] [.rows q11,.cells q41,.cells q21] 1 3 [⟨.it 161 (.ag [.i .i64,.i .i64]),q50,[],true⟩,⟨.tp [],q33,[3],false⟩,⟨.tp [],q50,[],false⟩,⟨.tp [],q35,[3],false⟩]:=funC Tryz.func58 Tryz.call58 [(c95 n).e,(c96 n).e,(c97 n).e,(c98 n).e,(c99 n).e,(c100 n).e,(c101 n).e,(c102 n).e] [] [] [] [1,2,0] (ko n)
def c57(n:Nat):FF Tryz.prog 57 [.s,.fn 1000058 [.p 1 0]] [.rows q11,.cells q41] 1 2 [⟨.tp [.i .i64,.i .i64],q50,[2],false⟩,⟨.tp [.i .i64,.i .i64],q33,[2,3],false⟩,⟨.tp [.i .i64,.i .i64],q35,[2,3],false⟩]:=funD ⟨(acM [] [] Tryz.f57),2,3,0,9,94,5⟩ Tryz.func57 Tryz.call57 Tryz.func94 Tryz.call94 [(c58 n).e] [] [] [] [1,0] (eq n) (by kernel_rfl) (by kernel_rfl) (by kernel_rfl) (by kernel_rfl)
def c28(n:Nat):FF Tryz.prog 28 [.s] [] 0 0 [⟨.tp [.ag q14,.i .i64,.i .i64,.i .i64],[(0,.rows q11)],[0],false⟩,⟨.tp [.ag q13,.i .i64,.i .i64,.i .i64],[(0,.rows q11)],[0],false⟩]:=funC Tryz.func28 Tryz.call28 [(c57 n).e] [] [] [] [] (jH n)
def KY(n:Nat):FF Tryz.prog 156 q78 q52 1 1 [⟨.b,[],[],false⟩]:=funC Tryz.func156 Tryz.call156 [] [] [] [] [0] (qI n)
def M8(n:Nat):FF Tryz.prog 211 q72 [.cells q19,.cells q47,.rows q11] 3 3 [⟨.b,[],[],false⟩]:=funC Tryz.func211 Tryz.call211 [(c210 n).e] [] [] [] [0,1,2] (pa n)
def LK(n:Nat):FF Tryz.prog 212 [.p 0 0,.p 1 0,.p 2 0] [.cells [.i .u8,.bd,.b,.s,.i .i64,.i .i64,.s,.s,.i .u8,.i .u8,.i .u8,.i .u8,.bd,.b,.s,.i .i64,.i .i64,.s,.s,.i .u8,.i .u8,.i .u8,.i .u8,.bd,.b,.s,.i .i64,.i .i64,.s,.s,.i .u8,.i .u8,.i .u8,.ws 3,.b,.b],.cells [.i .i64],.cells q19,.rows q11] 4 4 [⟨.b,[],[],false⟩]:=funC Tryz.func212 Tryz.call212 [(c213 n).e] [] [] [] [0,1,2,3] (o8 n)
def L6(n:Nat):FF Tryz.prog 214 [.p 0 0,.p 1 0,.p 2 0,.p 3 0] [.cells q45,.cells [.i .i64],.cells [.i .i64],.cells q19,.rows q11] 5 5 [⟨.b,[],[],false⟩]:=funC Tryz.func214 Tryz.call214 [(c213 n).e] [] [] [] [0,1,2,3,4] (oS n)
def MB(n:Nat):FF Tryz.prog 215 q72 [.cells q47,.cells [.i .i64],.rows q11] 3 3 [⟨.b,[],[],false⟩]:=funC Tryz.func215 Tryz.call215 [] [] [] [] [0,1,2] (oW n)
def Lx(n:Nat):FF Tryz.prog 209 [.sl 0 0 4 (some (.k 4))] [.cells q51,.cells q19,.cells q46,.cells [.i .i64],.cells [.i .i64],.rows q11] 6 6 [⟨.i .i64,[],[],false⟩]:=funC Tryz.func209 Tryz.call209 [(M8 n).e,(LK n).e,(L6 n).e,(MB n).e] [] [0] [] [0,1,2,3,4,5] (nV n)
def Fp(n:Nat):List (FE Tryz.prog):=[(c210 n).e,(Lx n).e]
def GN(n:Nat):LP Tryz.prog Tryz.f157.ntmps:=cr (Fp n) [] 0 (sb (acM [] [] Tryz.f157) 0) true ⟨[(1,.p 1 0),(4,.p 2 0),(13,.ws 0),(14,.i .i64),(15,.i .i64)],[(0,.rows q11),(1,.cells q14),(2,.cells [.i .i64])],3,1,1,1⟩ [] q68 (nP n) n
def K9(n:Nat):FF Tryz.prog 157 q78 q52 1 1 [⟨.tp [.i .i64,.i .i64],[],[],false⟩]:=funC Tryz.func157 Tryz.call157 (Fp n) [GN n] [] [] [0] (sy n)
def LL(n:Nat):FF Tryz.prog 103 q78 q52 1 1 [⟨.tp [.i .i64,.i .i64],[],[],false⟩]:=funC Tryz.func103 Tryz.call103 [(KY n).e,(c50 n).e,(c153 n).e,(K9 n).e] [] [] [] [0] (sZ n)
def c59(n:Nat):FF Tryz.prog 59 q78 q52 1 1 [⟨.i .i64,[],[],false⟩]:=funC Tryz.func59 Tryz.call59 [(LL n).e] [] [] [] [0] (kb n)
def c60(n:Nat):FF Tryz.prog 60 [] [] 0 0 [⟨.mp 0,[(0,.mp .u8 [(1,104),(2,106),(3,107),(4,107)])],[0],false⟩]:=funC Tryz.func60 Tryz.call60 [] [] [] [] [] (ju n)
def MX(n:Nat):LP Tryz.prog Tryz.f216.ntmps:=cr [] [] 0 (sb (acM [] [] Tryz.f216) 0) false q66 [] [⟨.exit 0,⟨[(3,.i .u8)],[],1,1,1,1⟩⟩] (gB n) n
def c216(n:Nat):FF Tryz.prog 216 [.sl 0 0 .q (some .q)] [.ints .u8 3] 1 1 [⟨.it 9 (.s),[],[],true⟩,⟨.i .u8,[],[],false⟩]:=funC Tryz.func216 Tryz.call216 [] [MX n] [] [] [0] (iG n)
def LG(n:Nat):LP Tryz.prog Tryz.f217.ntmps:=cr [] [] 0 (sb (acM [] [] Tryz.f217) 0) false q66 [] [⟨.exit 0,⟨[(3,.i .u8)],[],1,1,1,1⟩⟩] (gz n) n
def c217(n:Nat):FF Tryz.prog 217 [.sl 0 0 .q (some .q)] [.ints .u8 3] 1 1 [⟨.it 9 (.s),[],[],true⟩,⟨.i .u8,[],[],false⟩]:=funC Tryz.func217 Tryz.call217 [] [LG n] [] [] [0] (iI n)
def c158(n:Nat):PF Tryz.prog 158 [.ai .u8 3,.i .i64] (.tp [.ai .u8 3,.ai .u8 3,.i .i64]):=aB Tryz.func158 Tryz.call158 [(c136 n).e,(c216 n).e,(c217 n).e] [] [] [] (sE n)
end
end Go.Sh
