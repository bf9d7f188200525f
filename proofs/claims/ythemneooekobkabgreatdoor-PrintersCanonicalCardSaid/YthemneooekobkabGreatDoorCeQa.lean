/- Each function of the program computes its plain function: the certificates.
   Conditions: none. Printed by the bench tool gen.py. -/
import Derived.Test.YthemneooekobkabGreatDoorCeQ
import Derived.Test.YthemneooekobkabGreatDoorPShape
set_option linter.unusedVariables false
set_option linter.unusedSimpArgs false
set_option maxRecDepth 100000
set_option maxHeartbeats 4000000
namespace Go.Sh
open Go.Abs Go.Proofs
noncomputable section
abbrev q25:List PV:=[.p 2 0,.i .u8,.bd,.b,.s,.i .i64,.i .i64,.s,.s,.i .u8,.i .u8,.i .u8,.i .u8,.bd,.b,.s,.i .i64,.i .i64,.s,.s,.i .u8,.i .u8,.i .u8,.i .u8,.bd,.b,.s,.i .i64,.i .i64,.s,.s,.i .u8,.i .u8,.i .u8,.ws 0,.b,.b,.i .i64]
abbrev q66:List (Nat×PB):=[(1,.cells q25),(2,.cells q30)]
abbrev q59:List PV:=[.pn,.i .u8,.bd,.b,.s,.i .i64,.i .i64,.s,.s,.i .u8,.i .u8,.i .u8,.i .u8,.bd,.b,.s,.i .i64,.i .i64,.s,.s,.i .u8,.i .u8,.i .u8,.i .u8,.bd,.b,.s,.i .i64,.i .i64,.s,.s,.i .u8,.i .u8,.i .u8,.ws 0,.b,.b,.i .i64]
abbrev q51:List (Nat×PB):=[(1,.cells [.p 2 0,.i .u8,.bd,.b,.s,.i .i64,.i .i64,.s,.s,.i .u8,.i .u8,.i .u8,.i .u8,.bd,.b,.s,.i .i64,.i .i64,.s,.s,.i .u8,.i .u8,.i .u8,.i .u8,.bd,.b,.s,.i .i64,.i .i64,.s,.s,.i .u8,.i .u8,.i .u8,.rs 21 3 0 .q (some .q),.b,.b,.i .i64]),(2,.cells q30),(3,.rows q11)]
abbrev q52:List (Nat×PB):=[(1,.cells [.p 2 0,.i .u8,.bd,.b,.s,.i .i64,.i .i64,.s,.s,.i .u8,.i .u8,.i .u8,.i .u8,.bd,.b,.s,.i .i64,.i .i64,.s,.s,.i .u8,.i .u8,.i .u8,.i .u8,.bd,.b,.s,.i .i64,.i .i64,.s,.s,.i .u8,.i .u8,.i .u8,.ws 3,.b,.b,.i .i64]),(2,.cells q30),(3,.rows q11)]
abbrev q12:List PV:=[.i .u8,.bd,.b,.s,.i .i64,.i .i64,.s,.s,.i .u8,.i .u8,.i .u8,.i .u8,.bd,.b,.s,.i .i64,.i .i64,.s,.s,.i .u8,.i .u8,.i .u8,.i .u8,.bd,.b,.s,.i .i64,.i .i64,.s,.s,.i .u8,.i .u8,.i .u8,.ws 0,.b,.b]
abbrev q95:List PV:=[.ag q12,.i .i64,.i .i64,.i .i64]
abbrev q126:List (Nat×PB):=[(0,.rows q11)]
abbrev q119:List PV:=[.ag q12]
abbrev q44:List PV:=[.i .u8,.bd,.b,.s,.i .i64,.i .i64,.s,.s,.i .u8,.i .u8,.i .u8,.i .u8,.bd,.b,.s,.i .i64,.i .i64,.s,.s,.i .u8,.i .u8,.i .u8,.i .u8,.bd,.b,.s,.i .i64,.i .i64,.s,.s,.i .u8,.i .u8,.i .u8,.ws 2,.b,.b]
abbrev q102:PSt:=⟨[(0,.sl 0 0 .q (some .q)),(3,.i .u8),(4,.i .i64)],[(0,.ints .u8 3)],1,1,1,1⟩
def NC (_n:Nat):Ent:=Jx 151
theorem IQ (n:Nat):fH Tryz.prog (NC n):=JE Tryz.call151 OJ
def c151 (n:Nat):FE Tryz.prog:=libF (IQ n)
def PH (n:Nat):LP Tryz.prog Tryz.f204.ntmps:=cA [] [] 0 (sb (acM [] [] Tryz.f204) 0) false ⟨[(0,.ws 0),(1,.s),(7,.i .i64),(8,.i .i64)],[(0,.rows [.s])],1,1,1,1⟩ [] q122 (bq n) n
def Uw (n:Nat):FF Tryz.prog 204 [.ws 0,.s] [.rows [.s]] 1 1 [⟨.i .i64,[],[],false⟩]:=funC Tryz.func204 Tryz.call204 [] [PH n] [] [] [0] (e7 n)
def c150 (n:Nat):FF Tryz.prog 150 [.ws 0,.s] [.rows [.s]] 1 1 [⟨.b,[],[],false⟩]:=funC Tryz.func150 Tryz.call150 [(Uw n).e] [] [] [] [0] (dn n)
def NZ (_n:Nat):Ent:=QL 152
theorem I0 (n:Nat):fH Tryz.prog (NZ n):=Le Tryz.call152 λs c w h1 h2 h3 h4=>Tryz.strings_ContainsAny_laid s c w h1 h2 h3 h4
def c152 (n:Nat):FE Tryz.prog:=libF (I0 n)
def WJ (n:Nat):PF Tryz.prog 192 [.s,.sk [89]] (.b):=aK Tryz.func192 Tryz.call192 [] [] [] [] (fj n)
def Vy (n:Nat):PF Tryz.prog 145 [.s,.sk [89]] (.b):=aK Tryz.func145 Tryz.call145 [(WJ n).e] [] [] [] (cO n)
def c116 (n:Nat):PF Tryz.prog 116 [.s,.ag q33] (.i .i64):=aK Tryz.func116 Tryz.call116 [(c55 n).e,(c148 n),(c149 n).e,(c57 n).e,(c151 n),(c150 n).e,(c152 n),(Vy n).e] [] [] [] (l6 n)
def c76 (n:Nat):FF Tryz.prog 76 [.p 1 0] [.rows q11,.cells q25,.cells q30] 1 3 [⟨.it 129 (.ag [.i .i64,.i .i64]),q66,[],true⟩,⟨.tp [.ag q33,.i .i64],q66,[],false⟩]:=funC Tryz.func76 Tryz.call76 [(c107 n).e,(c112 n).e,(c116 n).e,(UC n).e] [] [] [] [1,2,0] (du n)
def c77 (n:Nat):FF Tryz.prog 77 [.p 0 0,.ag q33,.i .i64] [.cells [.p 1 0,.i .u8,.bd,.b,.s,.i .i64,.i .i64,.s,.s,.i .u8,.i .u8,.i .u8,.i .u8,.bd,.b,.s,.i .i64,.i .i64,.s,.s,.i .u8,.i .u8,.i .u8,.i .u8,.bd,.b,.s,.i .i64,.i .i64,.s,.s,.i .u8,.i .u8,.i .u8,.ws 2,.b,.b,.i .i64],.cells q30,.rows q11] 3 3 [⟨.it 129 (.ag [.i .i64,.i .i64]),[],[],true⟩,⟨.ag [.i .u8,.bd,.b,.s,.i .i64,.i .i64,.s,.s,.i .u8,.i .u8,.i .u8],[],[],false⟩]:=funC Tryz.func77 Tryz.call77 [(c117 n).e,(c110 n).e] [] [] [] [0,1,2] (cR n)
def c74 (n:Nat):FF Tryz.prog 74 [.p 1 0] [.rows q11,.cells q25,.cells q30] 1 3 [⟨.tp [],q66,[],false⟩,⟨.it 129 (.ag [.i .i64,.i .i64]),q66,[],true⟩]:=funC Tryz.func74 Tryz.call74 [(c70 n).e,(UC n).e,(c73 n).e,(c76 n).e,(c77 n).e,(c115 n).e,(c110 n).e] [] [] [] [1,2,0] (fK n)
def c35 (n:Nat):FF Tryz.prog 35 [.p 1 0,.p 2 0] [.rows q11,.cells q59,.cells q30] 1 3 [⟨.it 129 (.ag [.i .i64,.i .i64]),q66,[],true⟩,⟨.tp [],q51,[3],false⟩,⟨.tp [],q66,[],false⟩,⟨.tp [],q52,[3],false⟩]:=funC Tryz.func35 Tryz.call35 [(c70 n).e,(c71 n).e,(c72 n).e,(c73 n).e,(c74 n).e,(c75 n).e,(c76 n).e,(c77 n).e] [] [] [] [1,2,0] (iN n)
def c34 (n:Nat):FF Tryz.prog 34 [.s,.fn 1000035 [.p 1 0]] [.rows q11,.cells q59] 1 2 [⟨.tp [.i .i64,.i .i64],q66,[2],false⟩,⟨.tp [.i .i64,.i .i64],q51,[2,3],false⟩,⟨.tp [.i .i64,.i .i64],q52,[2,3],false⟩]:=funD ⟨(acM [] [] Tryz.f34),2,3,0,9,69,5⟩ Tryz.func34 Tryz.call34 Tryz.func69 Tryz.call69 [(c35 n).e] [] [] [] [1,0] (eC n) (by kernel_rfl) (by kernel_rfl) (by kernel_rfl) (by kernel_rfl)
def c11 (n:Nat):FF Tryz.prog 11 [.s] [] 0 0 [⟨.tp q95,q126,[0],false⟩,⟨.tp [.ag q19,.i .i64,.i .i64,.i .i64],q126,[0],false⟩]:=funC Tryz.func11 Tryz.call11 [(c34 n).e] [] [] [] [] (lF n)
def Xf (n:Nat):FF Tryz.prog 118 q119 q72 1 1 [⟨.b,[],[],false⟩]:=funC Tryz.func118 Tryz.call118 [] [] [] [] [0] (mC n)
def WG (n:Nat):FF Tryz.prog 158 q116 [.cells q20,.cells q44,.rows q11] 3 3 [⟨.b,[],[],false⟩]:=funC Tryz.func158 Tryz.call158 [(c157 n).e] [] [] [] [0,1,2] (qf n)
def Us (n:Nat):FF Tryz.prog 159 [.p 0 0,.p 1 0,.p 2 0] [.cells [.i .u8,.bd,.b,.s,.i .i64,.i .i64,.s,.s,.i .u8,.i .u8,.i .u8,.i .u8,.bd,.b,.s,.i .i64,.i .i64,.s,.s,.i .u8,.i .u8,.i .u8,.i .u8,.bd,.b,.s,.i .i64,.i .i64,.s,.s,.i .u8,.i .u8,.i .u8,.ws 3,.b,.b],.cells [.i .i64],.cells q20,.rows q11] 4 4 [⟨.b,[],[],false⟩]:=funC Tryz.func159 Tryz.call159 [(c160 n).e] [] [] [] [0,1,2,3] (qb n)
def Vt (n:Nat):FF Tryz.prog 161 [.p 0 0,.p 1 0,.p 2 0,.p 3 0] [.cells q63,.cells [.i .i64],.cells [.i .i64],.cells q20,.rows q11] 5 5 [⟨.b,[],[],false⟩]:=funC Tryz.func161 Tryz.call161 [(c160 n).e] [] [] [] [0,1,2,3,4] (qs n)
def VC (n:Nat):FF Tryz.prog 162 q116 [.cells q44,.cells [.i .i64],.rows q11] 3 3 [⟨.b,[],[],false⟩]:=funC Tryz.func162 Tryz.call162 [] [] [] [] [0,1,2] (pW n)
def WN (n:Nat):FF Tryz.prog 156 [.sl 0 0 4 (some (.k 4))] [.cells q71,.cells q20,.cells q43,.cells [.i .i64],.cells [.i .i64],.rows q11] 6 6 [⟨.i .i64,[],[],false⟩]:=funC Tryz.func156 Tryz.call156 [(WG n).e,(Us n).e,(Vt n).e,(VC n).e] [] [0] [] [0,1,2,3,4,5] (gL n)
def K5 (n:Nat):List (FE Tryz.prog):=[(c157 n).e,(WN n).e]
def Ou (n:Nat):LP Tryz.prog Tryz.f120.ntmps:=cA (K5 n) [] 0 (sb (acM [] [] Tryz.f120) 0) true ⟨[(1,.p 1 0),(4,.p 2 0),(13,.ws 0),(14,.i .i64),(15,.i .i64)],[(0,.rows q11),(1,.cells q12),(2,.cells [.i .i64])],3,1,1,1⟩ [] q73 (fF n) n
def WQ (n:Nat):FF Tryz.prog 120 q119 q72 1 1 [⟨.tp [.i .i64,.i .i64],[],[],false⟩]:=funC Tryz.func120 Tryz.call120 (K5 n) [Ou n] [] [] [0] (mf n)
def XB (n:Nat):FF Tryz.prog 79 q119 q72 1 1 [⟨.tp [.i .i64,.i .i64],[],[],false⟩]:=funC Tryz.func79 Tryz.call79 [(Xf n).e,(c119 n).e,(c115 n).e,(WQ n).e] [] [] [] [0] (mb n)
def c39 (n:Nat):FF Tryz.prog 39 q119 q72 1 1 [⟨.i .i64,[],[],false⟩]:=funC Tryz.func39 Tryz.call39 [(XB n).e] [] [] [] [0] (iM n)
def c68 (n:Nat):FF Tryz.prog 68 [] [] 0 0 [⟨.mp 0,[(0,.mp .u8 [(1,103),(2,105),(3,106),(4,106)])],[0],false⟩]:=funC Tryz.func68 Tryz.call68 [] [] [] [] [] (kq n)
def UJ (n:Nat):LP Tryz.prog Tryz.f172.ntmps:=cA [] [] 0 (sb (acM [] [] Tryz.f172) 0) false q102 [] [⟨.exit 0,⟨[(3,.i .u8)],[],1,1,1,1⟩⟩] (kh n) n
def c172 (n:Nat):FF Tryz.prog 172 [.sl 0 0 .q (some .q)] [.ints .u8 3] 1 1 [⟨.it 9 (.s),[],[],true⟩,⟨.i .u8,[],[],false⟩]:=funC Tryz.func172 Tryz.call172 [] [UJ n] [] [] [0] (lQ n)
def Wx (n:Nat):LP Tryz.prog Tryz.f173.ntmps:=cA [] [] 0 (sb (acM [] [] Tryz.f173) 0) false q102 [] [⟨.exit 0,⟨[(3,.i .u8)],[],1,1,1,1⟩⟩] (kg n) n
def c173 (n:Nat):FF Tryz.prog 173 [.sl 0 0 .q (some .q)] [.ints .u8 3] 1 1 [⟨.it 9 (.s),[],[],true⟩,⟨.i .u8,[],[],false⟩]:=funC Tryz.func173 Tryz.call173 [] [Wx n] [] [] [0] (lJ n)
def c137 (n:Nat):PF Tryz.prog 137 q111 (.tp q118):=aK Tryz.func137 Tryz.call137 [(c171 n).e,(c172 n).e,(c173 n).e] [] [] [] (qt n)
end
end Go.Sh
