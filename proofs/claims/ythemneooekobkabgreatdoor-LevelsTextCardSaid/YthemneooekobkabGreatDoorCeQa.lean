/- Each function of the program computes its plain function: the certificates.
   Conditions: none. Printed by the bench tool gen.py. -/
import Derived.Test.YthemneooekobkabGreatDoorCeQ
import Derived.Test.YthemneooekobkabGreatDoorPShape
set_option linter.unusedVariables false
set_option linter.unusedSimpArgs false
set_option maxRecDepth 100000
set_option maxHeartbeats 4000000
namespace Go.Sh
open Go.Abs Go.Proofs
noncomputable section
abbrev q24:List PV:=[.p 2 0,.i .u8,.bd,.b,.s,.i .i64,.i .i64,.s,.s,.i .u8,.i .u8,.i .u8,.i .u8,.bd,.b,.s,.i .i64,.i .i64,.s,.s,.i .u8,.i .u8,.i .u8,.i .u8,.bd,.b,.s,.i .i64,.i .i64,.s,.s,.i .u8,.i .u8,.i .u8,.ws 0,.b,.b,.i .i64]
abbrev q136:List PB:=[.rows q11,.cells q24,.cells [.s,.i .i64]]
abbrev q56:List (Nat×PB):=[(1,.cells q24),(2,.cells [.s,.i .i64])]
abbrev q61:List PV:=[.pn,.i .u8,.bd,.b,.s,.i .i64,.i .i64,.s,.s,.i .u8,.i .u8,.i .u8,.i .u8,.bd,.b,.s,.i .i64,.i .i64,.s,.s,.i .u8,.i .u8,.i .u8,.i .u8,.bd,.b,.s,.i .i64,.i .i64,.s,.s,.i .u8,.i .u8,.i .u8,.ws 0,.b,.b,.i .i64]
abbrev q52:List (Nat×PB):=[(1,.cells [.p 2 0,.i .u8,.bd,.b,.s,.i .i64,.i .i64,.s,.s,.i .u8,.i .u8,.i .u8,.i .u8,.bd,.b,.s,.i .i64,.i .i64,.s,.s,.i .u8,.i .u8,.i .u8,.i .u8,.bd,.b,.s,.i .i64,.i .i64,.s,.s,.i .u8,.i .u8,.i .u8,.rs 21 3 0 .q (some .q),.b,.b,.i .i64]),(2,.cells [.s,.i .i64]),(3,.rows q11)]
abbrev q53:List (Nat×PB):=[(1,.cells [.p 2 0,.i .u8,.bd,.b,.s,.i .i64,.i .i64,.s,.s,.i .u8,.i .u8,.i .u8,.i .u8,.bd,.b,.s,.i .i64,.i .i64,.s,.s,.i .u8,.i .u8,.i .u8,.i .u8,.bd,.b,.s,.i .i64,.i .i64,.s,.s,.i .u8,.i .u8,.i .u8,.ws 3,.b,.b,.i .i64]),(2,.cells [.s,.i .i64]),(3,.rows q11)]
abbrev q12:List PV:=[.i .u8,.bd,.b,.s,.i .i64,.i .i64,.s,.s,.i .u8,.i .u8,.i .u8,.i .u8,.bd,.b,.s,.i .i64,.i .i64,.s,.s,.i .u8,.i .u8,.i .u8,.i .u8,.bd,.b,.s,.i .i64,.i .i64,.s,.s,.i .u8,.i .u8,.i .u8,.ws 0,.b,.b]
abbrev q96:List PV:=[.ag q12,.i .i64,.i .i64,.i .i64]
abbrev q117:List (Nat×PB):=[(0,.rows q11)]
abbrev q108:List PV:=[.ag q12]
abbrev q44:List PV:=[.i .u8,.bd,.b,.s,.i .i64,.i .i64,.s,.s,.i .u8,.i .u8,.i .u8,.i .u8,.bd,.b,.s,.i .i64,.i .i64,.s,.s,.i .u8,.i .u8,.i .u8,.i .u8,.bd,.b,.s,.i .i64,.i .i64,.s,.s,.i .u8,.i .u8,.i .u8,.ws 2,.b,.b]
abbrev q102:PSt:=⟨[(0,.sl 0 0 .q (some .q)),(3,.i .u8),(4,.i .i64)],[(0,.ints .u8 3)],1,1,1,1⟩
def MZ (_n:Nat):Ent:=M5 151
theorem Jh (n:Nat):f9 Tryz.prog (MZ n):=KA Tryz.call151 PW
def c151 (n:Nat):FE Tryz.prog:=libF (Jh n)
def Ql (n:Nat):LP Tryz.prog Tryz.f204.ntmps:=co [] [] 0 (sb (acM [] [] Tryz.f204) 0) false ⟨[(0,.ws 0),(1,.s),(7,.i .i64),(8,.i .i64)],[(0,.rows [.s])],1,1,1,1⟩ [] q122 (bu n) n
def Vx (n:Nat):FF Tryz.prog 204 [.ws 0,.s] [.rows [.s]] 1 1 [⟨.i .i64,[],[],false⟩]:=funC Tryz.func204 Tryz.call204 [] [Ql n] [] [] [0] (fc n)
def c150 (n:Nat):FF Tryz.prog 150 [.ws 0,.s] [.rows [.s]] 1 1 [⟨.b,[],[],false⟩]:=funC Tryz.func150 Tryz.call150 [(Vx n).e] [] [] [] [0] (dl n)
def JH (_n:Nat):Ent:=Rl 152
theorem IL (n:Nat):f9 Tryz.prog (JH n):=Lt Tryz.call152 λs c w h1 h2 h3 h4=>Tryz.strings_ContainsAny_laid s c w h1 h2 h3 h4
def c152 (n:Nat):FE Tryz.prog:=libF (IL n)
def UC (n:Nat):PF Tryz.prog 192 [.s,.sk [89]] (.b):=aM Tryz.func192 Tryz.call192 [] [] [] [] (fk n)
def UV (n:Nat):PF Tryz.prog 145 [.s,.sk [89]] (.b):=aM Tryz.func145 Tryz.call145 [(UC n).e] [] [] [] (cR n)
def c116 (n:Nat):PF Tryz.prog 116 [.s,.ag q31] (.i .i64):=aM Tryz.func116 Tryz.call116 [(c55 n).e,(c148 n),(c149 n).e,(c57 n).e,(c151 n),(c150 n).e,(c152 n),(UV n).e] [] [] [] (kM n)
def c76 (n:Nat):FF Tryz.prog 76 [.p 1 0] q136 1 3 [⟨.it 129 (.ag [.i .i64,.i .i64]),q56,[],true⟩,⟨.tp [.ag q31,.i .i64],q56,[],false⟩]:=funC Tryz.func76 Tryz.call76 [(c107 n).e,(c112 n).e,(c116 n).e,(UL n).e] [] [] [] [1,2,0] (dp n)
def c77 (n:Nat):FF Tryz.prog 77 [.p 0 0,.ag q31,.i .i64] [.cells [.p 1 0,.i .u8,.bd,.b,.s,.i .i64,.i .i64,.s,.s,.i .u8,.i .u8,.i .u8,.i .u8,.bd,.b,.s,.i .i64,.i .i64,.s,.s,.i .u8,.i .u8,.i .u8,.i .u8,.bd,.b,.s,.i .i64,.i .i64,.s,.s,.i .u8,.i .u8,.i .u8,.ws 2,.b,.b,.i .i64],.cells [.s,.i .i64],.rows q11] 3 3 [⟨.it 129 (.ag [.i .i64,.i .i64]),[],[],true⟩,⟨.ag [.i .u8,.bd,.b,.s,.i .i64,.i .i64,.s,.s,.i .u8,.i .u8,.i .u8],[],[],false⟩]:=funC Tryz.func77 Tryz.call77 [(c117 n).e,(c110 n).e] [] [] [] [0,1,2] (cN n)
def c74 (n:Nat):FF Tryz.prog 74 [.p 1 0] q136 1 3 [⟨.tp [],q56,[],false⟩,⟨.it 129 (.ag [.i .i64,.i .i64]),q56,[],true⟩]:=funC Tryz.func74 Tryz.call74 [(c70 n).e,(UL n).e,(c73 n).e,(c76 n).e,(c77 n).e,(c115 n).e,(c110 n).e] [] [] [] [1,2,0] (fL n)
def c35 (n:Nat):FF Tryz.prog 35 [.p 1 0,.p 2 0] [.rows q11,.cells q61,.cells [.s,.i .i64]] 1 3 [⟨.it 129 (.ag [.i .i64,.i .i64]),q56,[],true⟩,⟨.tp [],q52,[3],false⟩,⟨.tp [],q56,[],false⟩,⟨.tp [],q53,[3],false⟩]:=funC Tryz.func35 Tryz.call35 [(c70 n).e,(c71 n).e,(c72 n).e,(c73 n).e,(c74 n).e,(c75 n).e,(c76 n).e,(c77 n).e] [] [] [] [1,2,0] (iu n)
def c34 (n:Nat):FF Tryz.prog 34 [.s,.fn 1000035 [.p 1 0]] [.rows q11,.cells q61] 1 2 [⟨.tp [.i .i64,.i .i64],q56,[2],false⟩,⟨.tp [.i .i64,.i .i64],q52,[2,3],false⟩,⟨.tp [.i .i64,.i .i64],q53,[2,3],false⟩]:=funD ⟨(acM [] [] Tryz.f34),2,3,0,9,69,5⟩ Tryz.func34 Tryz.call34 Tryz.func69 Tryz.call69 [(c35 n).e] [] [] [] [1,0] (eD n) (by kernel_rfl) (by kernel_rfl) (by kernel_rfl) (by kernel_rfl)
def c11 (n:Nat):FF Tryz.prog 11 [.s] [] 0 0 [⟨.tp q96,q117,[0],false⟩,⟨.tp [.ag q29,.i .i64,.i .i64,.i .i64],q117,[0],false⟩]:=funC Tryz.func11 Tryz.call11 [(c34 n).e] [] [] [] [] (nz n)
def Us (n:Nat):FF Tryz.prog 118 q108 q77 1 1 [⟨.b,[],[],false⟩]:=funC Tryz.func118 Tryz.call118 [] [] [] [] [0] (mB n)
def Wj (n:Nat):FF Tryz.prog 158 q116 [.cells q20,.cells q44,.rows q11] 3 3 [⟨.b,[],[],false⟩]:=funC Tryz.func158 Tryz.call158 [(c157 n).e] [] [] [] [0,1,2] (pZ n)
def VG (n:Nat):FF Tryz.prog 159 [.p 0 0,.p 1 0,.p 2 0] [.cells [.i .u8,.bd,.b,.s,.i .i64,.i .i64,.s,.s,.i .u8,.i .u8,.i .u8,.i .u8,.bd,.b,.s,.i .i64,.i .i64,.s,.s,.i .u8,.i .u8,.i .u8,.i .u8,.bd,.b,.s,.i .i64,.i .i64,.s,.s,.i .u8,.i .u8,.i .u8,.ws 3,.b,.b],.cells [.i .i64],.cells q20,.rows q11] 4 4 [⟨.b,[],[],false⟩]:=funC Tryz.func159 Tryz.call159 [(c160 n).e] [] [] [] [0,1,2,3] (qm n)
def Va (n:Nat):FF Tryz.prog 161 [.p 0 0,.p 1 0,.p 2 0,.p 3 0] [.cells q65,.cells [.i .i64],.cells [.i .i64],.cells q20,.rows q11] 5 5 [⟨.b,[],[],false⟩]:=funC Tryz.func161 Tryz.call161 [(c160 n).e] [] [] [] [0,1,2,3,4] (qj n)
def U1 (n:Nat):FF Tryz.prog 162 q116 [.cells q44,.cells [.i .i64],.rows q11] 3 3 [⟨.b,[],[],false⟩]:=funC Tryz.func162 Tryz.call162 [] [] [] [] [0,1,2] (qk n)
def V8 (n:Nat):FF Tryz.prog 156 [.sl 0 0 4 (some (.k 4))] [.cells q72,.cells q20,.cells q43,.cells [.i .i64],.cells [.i .i64],.rows q11] 6 6 [⟨.i .i64,[],[],false⟩]:=funC Tryz.func156 Tryz.call156 [(Wj n).e,(VG n).e,(Va n).e,(U1 n).e] [] [0] [] [0,1,2,3,4,5] (gF n)
def J6 (n:Nat):List (FE Tryz.prog):=[(c157 n).e,(V8 n).e]
def Qb (n:Nat):LP Tryz.prog Tryz.f120.ntmps:=co (J6 n) [] 0 (sb (acM [] [] Tryz.f120) 0) true ⟨[(1,.p 1 0),(4,.p 2 0),(13,.ws 0),(14,.i .i64),(15,.i .i64)],[(0,.rows q11),(1,.cells q12),(2,.cells [.i .i64])],3,1,1,1⟩ [] q73 (fH n) n
def Vh (n:Nat):FF Tryz.prog 120 q108 q77 1 1 [⟨.tp [.i .i64,.i .i64],[],[],false⟩]:=funC Tryz.func120 Tryz.call120 (J6 n) [Qb n] [] [] [0] (mb n)
def X2 (n:Nat):FF Tryz.prog 79 q108 q77 1 1 [⟨.tp [.i .i64,.i .i64],[],[],false⟩]:=funC Tryz.func79 Tryz.call79 [(Us n).e,(c119 n).e,(c115 n).e,(Vh n).e] [] [] [] [0] (l9 n)
def c39 (n:Nat):FF Tryz.prog 39 q108 q77 1 1 [⟨.i .i64,[],[],false⟩]:=funC Tryz.func39 Tryz.call39 [(X2 n).e] [] [] [] [0] (iz n)
def c68 (n:Nat):FF Tryz.prog 68 [] [] 0 0 [⟨.mp 0,[(0,.mp .u8 [(1,103),(2,105),(3,106),(4,106)])],[0],false⟩]:=funC Tryz.func68 Tryz.call68 [] [] [] [] [] (mU n)
def U0 (n:Nat):LP Tryz.prog Tryz.f172.ntmps:=co [] [] 0 (sb (acM [] [] Tryz.f172) 0) false q102 [] [⟨.exit 0,⟨[(3,.i .u8)],[],1,1,1,1⟩⟩] (kb n) n
def c172 (n:Nat):FF Tryz.prog 172 [.sl 0 0 .q (some .q)] [.ints .u8 3] 1 1 [⟨.it 9 (.s),[],[],true⟩,⟨.i .u8,[],[],false⟩]:=funC Tryz.func172 Tryz.call172 [] [U0 n] [] [] [0] (lK n)
def U3 (n:Nat):LP Tryz.prog Tryz.f173.ntmps:=co [] [] 0 (sb (acM [] [] Tryz.f173) 0) false q102 [] [⟨.exit 0,⟨[(3,.i .u8)],[],1,1,1,1⟩⟩] (jR n) n
def c173 (n:Nat):FF Tryz.prog 173 [.sl 0 0 .q (some .q)] [.ints .u8 3] 1 1 [⟨.it 9 (.s),[],[],true⟩,⟨.i .u8,[],[],false⟩]:=funC Tryz.func173 Tryz.call173 [] [U3 n] [] [] [0] (lQ n)
def c137 (n:Nat):PF Tryz.prog 137 q111 (.tp q119):=aM Tryz.func137 Tryz.call137 [(c171 n).e,(c172 n).e,(c173 n).e] [] [] [] (pY n)
end
end Go.Sh
