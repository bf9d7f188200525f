/- Each function of the program computes its plain function: the certificates.
   Conditions: none. Printed by the bench tool gen.py. -/
import Derived.Test.YthemneooekobkabGreatDoorCeQ
import Derived.Test.YthemneooekobkabGreatDoorPShape
set_option linter.unusedVariables false
set_option linter.unusedSimpArgs false
set_option maxRecDepth 100000
set_option maxHeartbeats 4000000
namespace Go.Sh
open Go.Abs Go.Proofs
noncomputable section
abbrev q24:List PV:=[.p 2 0,.i .u8,.bd,.b,.s,.i .i64,.i .i64,.s,.s,.i .u8,.i .u8,.i .u8,.i .u8,.bd,.b,.s,.i .i64,.i .i64,.s,.s,.i .u8,.i .u8,.i .u8,.i .u8,.bd,.b,.s,.i .i64,.i .i64,.s,.s,.i .u8,.i .u8,.i .u8,.ws 0,.b,.b,.i .i64]
abbrev q68:List (Nat×PB):=[(1,.cells q24),(2,.cells q30)]
abbrev q61:List PV:=[.pn,.i .u8,.bd,.b,.s,.i .i64,.i .i64,.s,.s,.i .u8,.i .u8,.i .u8,.i .u8,.bd,.b,.s,.i .i64,.i .i64,.s,.s,.i .u8,.i .u8,.i .u8,.i .u8,.bd,.b,.s,.i .i64,.i .i64,.s,.s,.i .u8,.i .u8,.i .u8,.ws 0,.b,.b,.i .i64]
abbrev q52:List (Nat×PB):=[(1,.cells [.p 2 0,.i .u8,.bd,.b,.s,.i .i64,.i .i64,.s,.s,.i .u8,.i .u8,.i .u8,.i .u8,.bd,.b,.s,.i .i64,.i .i64,.s,.s,.i .u8,.i .u8,.i .u8,.i .u8,.bd,.b,.s,.i .i64,.i .i64,.s,.s,.i .u8,.i .u8,.i .u8,.rs 21 3 0 .q (some .q),.b,.b,.i .i64]),(2,.cells q30),(3,.rows q11)]
abbrev q54:List (Nat×PB):=[(1,.cells [.p 2 0,.i .u8,.bd,.b,.s,.i .i64,.i .i64,.s,.s,.i .u8,.i .u8,.i .u8,.i .u8,.bd,.b,.s,.i .i64,.i .i64,.s,.s,.i .u8,.i .u8,.i .u8,.i .u8,.bd,.b,.s,.i .i64,.i .i64,.s,.s,.i .u8,.i .u8,.i .u8,.ws 3,.b,.b,.i .i64]),(2,.cells q30),(3,.rows q11)]
abbrev q12:List PV:=[.i .u8,.bd,.b,.s,.i .i64,.i .i64,.s,.s,.i .u8,.i .u8,.i .u8,.i .u8,.bd,.b,.s,.i .i64,.i .i64,.s,.s,.i .u8,.i .u8,.i .u8,.i .u8,.bd,.b,.s,.i .i64,.i .i64,.s,.s,.i .u8,.i .u8,.i .u8,.ws 0,.b,.b]
abbrev q96:List PV:=[.ag q12,.i .i64,.i .i64,.i .i64]
abbrev q119:List (Nat×PB):=[(0,.rows q11)]
abbrev q113:List PV:=[.ag q12]
abbrev q43:List PV:=[.i .u8,.bd,.b,.s,.i .i64,.i .i64,.s,.s,.i .u8,.i .u8,.i .u8,.i .u8,.bd,.b,.s,.i .i64,.i .i64,.s,.s,.i .u8,.i .u8,.i .u8,.i .u8,.bd,.b,.s,.i .i64,.i .i64,.s,.s,.i .u8,.i .u8,.i .u8,.ws 2,.b,.b]
abbrev q103:PSt:=⟨[(0,.sl 0 0 .q (some .q)),(3,.i .u8),(4,.i .i64)],[(0,.ints .u8 3)],1,1,1,1⟩
def Mc (_n:Nat):Ent:=Lo 151
theorem JA (n:Nat):fW Tryz.prog (Mc n):=KL Tryz.call151 PZ
def c151 (n:Nat):FE Tryz.prog:=libF (JA n)
def QI (n:Nat):LP Tryz.prog Tryz.f204.ntmps:=ct [] [] 0 (sb (acM [] [] Tryz.f204) 0) false ⟨[(0,.ws 0),(1,.s),(7,.i .i64),(8,.i .i64)],[(0,.rows [.s])],1,1,1,1⟩ [] q124 (br n) n
def WV (n:Nat):FF Tryz.prog 204 [.ws 0,.s] [.rows [.s]] 1 1 [⟨.i .i64,[],[],false⟩]:=funC Tryz.func204 Tryz.call204 [] [QI n] [] [] [0] (e7 n)
def c150 (n:Nat):FF Tryz.prog 150 [.ws 0,.s] [.rows [.s]] 1 1 [⟨.b,[],[],false⟩]:=funC Tryz.func150 Tryz.call150 [(WV n).e] [] [] [] [0] (dm n)
def MM (_n:Nat):Ent:=QV 152
theorem IW (n:Nat):fW Tryz.prog (MM n):=Nq Tryz.call152 λs c w h1 h2 h3 h4=>Tryz.strings_ContainsAny_laid s c w h1 h2 h3 h4
def c152 (n:Nat):FE Tryz.prog:=libF (IW n)
def XD (n:Nat):PF Tryz.prog 192 [.s,.sk [89]] (.b):=aJ Tryz.func192 Tryz.call192 [] [] [] [] (ft n)
def Vy (n:Nat):PF Tryz.prog 145 [.s,.sk [89]] (.b):=aJ Tryz.func145 Tryz.call145 [(XD n).e] [] [] [] (cU n)
def c116 (n:Nat):PF Tryz.prog 116 [.s,.ag q31] (.i .i64):=aJ Tryz.func116 Tryz.call116 [(c55 n).e,(c148 n),(c149 n).e,(c57 n).e,(c151 n),(c150 n).e,(c152 n),(Vy n).e] [] [] [] (kx n)
def c76 (n:Nat):FF Tryz.prog 76 [.p 1 0] [.rows q11,.cells q24,.cells q30] 1 3 [⟨.it 129 (.ag [.i .i64,.i .i64]),q68,[],true⟩,⟨.tp [.ag q31,.i .i64],q68,[],false⟩]:=funC Tryz.func76 Tryz.call76 [(c107 n).e,(c112 n).e,(c116 n).e,(Wl n).e] [] [] [] [1,2,0] (dw n)
def c77 (n:Nat):FF Tryz.prog 77 [.p 0 0,.ag q31,.i .i64] [.cells [.p 1 0,.i .u8,.bd,.b,.s,.i .i64,.i .i64,.s,.s,.i .u8,.i .u8,.i .u8,.i .u8,.bd,.b,.s,.i .i64,.i .i64,.s,.s,.i .u8,.i .u8,.i .u8,.i .u8,.bd,.b,.s,.i .i64,.i .i64,.s,.s,.i .u8,.i .u8,.i .u8,.ws 2,.b,.b,.i .i64],.cells q30,.rows q11] 3 3 [⟨.it 129 (.ag [.i .i64,.i .i64]),[],[],true⟩,⟨.ag [.i .u8,.bd,.b,.s,.i .i64,.i .i64,.s,.s,.i .u8,.i .u8,.i .u8],[],[],false⟩]:=funC Tryz.func77 Tryz.call77 [(c117 n).e,(c110 n).e] [] [] [] [0,1,2] (cX n)
def c74 (n:Nat):FF Tryz.prog 74 [.p 1 0] [.rows q11,.cells q24,.cells q30] 1 3 [⟨.tp [],q68,[],false⟩,⟨.it 129 (.ag [.i .i64,.i .i64]),q68,[],true⟩]:=funC Tryz.func74 Tryz.call74 [(c70 n).e,(Wl n).e,(c73 n).e,(c76 n).e,(c77 n).e,(c115 n).e,(c110 n).e] [] [] [] [1,2,0] (fH n)
def c35 (n:Nat):FF Tryz.prog 35 [.p 1 0,.p 2 0] [.rows q11,.cells q61,.cells q30] 1 3 [⟨.it 129 (.ag [.i .i64,.i .i64]),q68,[],true⟩,⟨.tp [],q52,[3],false⟩,⟨.tp [],q68,[],false⟩,⟨.tp [],q54,[3],false⟩]:=funC Tryz.func35 Tryz.call35 [(c70 n).e,(c71 n).e,(c72 n).e,(c73 n).e,(c74 n).e,(c75 n).e,(c76 n).e,(c77 n).e] [] [] [] [1,2,0] (iH n)
def c34 (n:Nat):FF Tryz.prog 34 [.s,.fn 1000035 [.p 1 0]] [.rows q11,.cells q61] 1 2 [⟨.tp [.i .i64,.i .i64],q68,[2],false⟩,⟨.tp [.i .i64,.i .i64],q52,[2,3],false⟩,⟨.tp [.i .i64,.i .i64],q54,[2,3],false⟩]:=funD ⟨(acM [] [] Tryz.f34),2,3,0,9,69,5⟩ Tryz.func34 Tryz.call34 Tryz.func69 Tryz.call69 [(c35 n).e] [] [] [] [1,0] (ei n) (by kernel_rfl) (by kernel_rfl) (by kernel_rfl) (by kernel_rfl)
def c11 (n:Nat):FF Tryz.prog 11 [.s] [] 0 0 [⟨.tp q96,q119,[0],false⟩,⟨.tp [.ag q29,.i .i64,.i .i64,.i .i64],q119,[0],false⟩]:=funC Tryz.func11 Tryz.call11 [(c34 n).e] [] [] [] [] (nj n)
def XB (n:Nat):FF Tryz.prog 118 q113 q83 1 1 [⟨.b,[],[],false⟩]:=funC Tryz.func118 Tryz.call118 [] [] [] [] [0] (mg n)
def Vs (n:Nat):FF Tryz.prog 158 q118 [.cells q20,.cells q43,.rows q11] 3 3 [⟨.b,[],[],false⟩]:=funC Tryz.func158 Tryz.call158 [(c157 n).e] [] [] [] [0,1,2] (qg n)
def WX (n:Nat):FF Tryz.prog 159 [.p 0 0,.p 1 0,.p 2 0] [.cells [.i .u8,.bd,.b,.s,.i .i64,.i .i64,.s,.s,.i .u8,.i .u8,.i .u8,.i .u8,.bd,.b,.s,.i .i64,.i .i64,.s,.s,.i .u8,.i .u8,.i .u8,.i .u8,.bd,.b,.s,.i .i64,.i .i64,.s,.s,.i .u8,.i .u8,.i .u8,.ws 3,.b,.b],.cells [.i .i64],.cells q20,.rows q11] 4 4 [⟨.b,[],[],false⟩]:=funC Tryz.func159 Tryz.call159 [(c160 n).e] [] [] [] [0,1,2,3] (pX n)
def Vi (n:Nat):FF Tryz.prog 161 [.p 0 0,.p 1 0,.p 2 0,.p 3 0] [.cells q65,.cells [.i .i64],.cells [.i .i64],.cells q20,.rows q11] 5 5 [⟨.b,[],[],false⟩]:=funC Tryz.func161 Tryz.call161 [(c160 n).e] [] [] [] [0,1,2,3,4] (qm n)
def UT (n:Nat):FF Tryz.prog 162 q118 [.cells q43,.cells [.i .i64],.rows q11] 3 3 [⟨.b,[],[],false⟩]:=funC Tryz.func162 Tryz.call162 [] [] [] [] [0,1,2] (qt n)
def VG (n:Nat):FF Tryz.prog 156 [.sl 0 0 4 (some (.k 4))] [.cells q73,.cells q20,.cells q42,.cells [.i .i64],.cells [.i .i64],.rows q11] 6 6 [⟨.i .i64,[],[],false⟩]:=funC Tryz.func156 Tryz.call156 [(Vs n).e,(WX n).e,(Vi n).e,(UT n).e] [] [0] [] [0,1,2,3,4,5] (gm n)
def Ko (n:Nat):List (FE Tryz.prog):=[(c157 n).e,(VG n).e]
def Pl (n:Nat):LP Tryz.prog Tryz.f120.ntmps:=ct (Ko n) [] 0 (sb (acM [] [] Tryz.f120) 0) true ⟨[(1,.p 1 0),(4,.p 2 0),(13,.ws 0),(14,.i .i64),(15,.i .i64)],[(0,.rows q11),(1,.cells q12),(2,.cells [.i .i64])],3,1,1,1⟩ [] q74 (fD n) n
def VU (n:Nat):FF Tryz.prog 120 q113 q83 1 1 [⟨.tp [.i .i64,.i .i64],[],[],false⟩]:=funC Tryz.func120 Tryz.call120 (Ko n) [Pl n] [] [] [0] (lG n)
def X1 (n:Nat):FF Tryz.prog 79 q113 q83 1 1 [⟨.tp [.i .i64,.i .i64],[],[],false⟩]:=funC Tryz.func79 Tryz.call79 [(XB n).e,(c119 n).e,(c115 n).e,(VU n).e] [] [] [] [0] (lP n)
def c39 (n:Nat):FF Tryz.prog 39 q113 q83 1 1 [⟨.i .i64,[],[],false⟩]:=funC Tryz.func39 Tryz.call39 [(X1 n).e] [] [] [] [0] (iv n)
def c68 (n:Nat):FF Tryz.prog 68 [] [] 0 0 [⟨.mp 0,[(0,.mp .u8 [(1,103),(2,105),(3,106),(4,106)])],[0],false⟩]:=funC Tryz.func68 Tryz.call68 [] [] [] [] [] (mL n)
def US (n:Nat):LP Tryz.prog Tryz.f172.ntmps:=ct [] [] 0 (sb (acM [] [] Tryz.f172) 0) false q103 [] [⟨.exit 0,⟨[(3,.i .u8)],[],1,1,1,1⟩⟩] (jN n) n
def c172 (n:Nat):FF Tryz.prog 172 [.sl 0 0 .q (some .q)] [.ints .u8 3] 1 1 [⟨.it 9 (.s),[],[],true⟩,⟨.i .u8,[],[],false⟩]:=funC Tryz.func172 Tryz.call172 [] [US n] [] [] [0] (lk n)
def XA (n:Nat):LP Tryz.prog Tryz.f173.ntmps:=ct [] [] 0 (sb (acM [] [] Tryz.f173) 0) false q103 [] [⟨.exit 0,⟨[(3,.i .u8)],[],1,1,1,1⟩⟩] (jQ n) n
def c173 (n:Nat):FF Tryz.prog 173 [.sl 0 0 .q (some .q)] [.ints .u8 3] 1 1 [⟨.it 9 (.s),[],[],true⟩,⟨.i .u8,[],[],false⟩]:=funC Tryz.func173 Tryz.call173 [] [XA n] [] [] [0] (lj n)
def c137 (n:Nat):PF Tryz.prog 137 q112 (.tp q121):=aJ Tryz.func137 Tryz.call137 [(c171 n).e,(c172 n).e,(c173 n).e] [] [] [] (qh n)
end
end Go.Sh
