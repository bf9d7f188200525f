/- Each function of the program computes its plain function: the certificates.
   Conditions: none. Printed by the bench tool gen.py. -/
import Derived.Test.YtfiponokimbeeaaGreatDoorCeR
import Derived.Test.YtfiponokimbeeaaGreatDoorPShape
set_option linter.unusedVariables false
set_option linter.unusedSimpArgs false
set_option maxRecDepth 100000
set_option maxHeartbeats 4000000
namespace Go.Sh
open Go.Abs Go.Proofs
noncomputable section
abbrev q18:List PV:=[.p 2 0,.i .u8,.bd,.b,.s,.i .i64,.i .i64,.s,.s,.i .u8,.i .u8,.i .u8,.i .u8,.bd,.b,.s,.i .i64,.i .i64,.s,.s,.i .u8,.i .u8,.i .u8,.i .u8,.bd,.b,.s,.i .i64,.i .i64,.s,.s,.i .u8,.i .u8,.i .u8,.ws 0,.b,.b,.i .i64]
abbrev q50:List (Nat×PB):=[(1,.cells q18),(2,.cells q21)]
abbrev q41:List PV:=[.pn,.i .u8,.bd,.b,.s,.i .i64,.i .i64,.s,.s,.i .u8,.i .u8,.i .u8,.i .u8,.bd,.b,.s,.i .i64,.i .i64,.s,.s,.i .u8,.i .u8,.i .u8,.i .u8,.bd,.b,.s,.i .i64,.i .i64,.s,.s,.i .u8,.i .u8,.i .u8,.ws 0,.b,.b,.i .i64]
abbrev q34:List (Nat×PB):=[(1,.cells [.p 2 0,.i .u8,.bd,.b,.s,.i .i64,.i .i64,.s,.s,.i .u8,.i .u8,.i .u8,.i .u8,.bd,.b,.s,.i .i64,.i .i64,.s,.s,.i .u8,.i .u8,.i .u8,.i .u8,.bd,.b,.s,.i .i64,.i .i64,.s,.s,.i .u8,.i .u8,.i .u8,.rs 21 3 0 .q (some .q),.b,.b,.i .i64]),(2,.cells q21),(3,.rows q11)]
abbrev q35:List (Nat×PB):=[(1,.cells [.p 2 0,.i .u8,.bd,.b,.s,.i .i64,.i .i64,.s,.s,.i .u8,.i .u8,.i .u8,.i .u8,.bd,.b,.s,.i .i64,.i .i64,.s,.s,.i .u8,.i .u8,.i .u8,.i .u8,.bd,.b,.s,.i .i64,.i .i64,.s,.s,.i .u8,.i .u8,.i .u8,.ws 3,.b,.b,.i .i64]),(2,.cells q21),(3,.rows q11)]
abbrev q14:List PV:=[.i .u8,.bd,.b,.s,.i .i64,.i .i64,.s,.s,.i .u8,.i .u8,.i .u8,.i .u8,.bd,.b,.s,.i .i64,.i .i64,.s,.s,.i .u8,.i .u8,.i .u8,.i .u8,.bd,.b,.s,.i .i64,.i .i64,.s,.s,.i .u8,.i .u8,.i .u8,.ws 0,.b,.b]
abbrev q74:List PV:=[.ag q14]
abbrev q47:List PV:=[.i .u8,.bd,.b,.s,.i .i64,.i .i64,.s,.s,.i .u8,.i .u8,.i .u8,.i .u8,.bd,.b,.s,.i .i64,.i .i64,.s,.s,.i .u8,.i .u8,.i .u8,.i .u8,.bd,.b,.s,.i .i64,.i .i64,.s,.s,.i .u8,.i .u8,.i .u8,.ws 2,.b,.b]
abbrev q65:PSt:=⟨[(0,.sl 0 0 .q (some .q)),(3,.i .u8),(4,.i .i64)],[(0,.ints .u8 3)],1,1,1,1⟩
def Iy (_n:Nat):Ent:=Jf 255
theorem G5 (n:Nat):ep Tryz.prog (Iy n):=HO Tryz.call255 MX
def c255 (n:Nat):FE Tryz.prog:=libF (G5 n)
def OI (n:Nat):LP Tryz.prog Tryz.f72.ntmps:=dG [] [] 0 (sb (acM [] [] Tryz.f72) 0) false ⟨[(0,.ws 0),(1,.s),(7,.i .i64),(8,.i .i64)],[(0,.rows [.s])],1,1,1,1⟩ [] q71 (aZ n) n
def UO (n:Nat):FF Tryz.prog 72 [.ws 0,.s] [.rows [.s]] 1 1 [⟨.i .i64,[],[],false⟩]:=funC Tryz.func72 Tryz.call72 [] [OI n] [] [] [0] (dW n)
def c254 (n:Nat):FF Tryz.prog 254 [.ws 0,.s] [.rows [.s]] 1 1 [⟨.b,[],[],false⟩]:=funC Tryz.func254 Tryz.call254 [(UO n).e] [] [] [] [0] (cK n)
def Kt (_n:Nat):Ent:=Oz 256
theorem F3 (n:Nat):ep Tryz.prog (Kt n):=KJ Tryz.call256 λs c w h1 h2 h3 h4=>Tryz.strings_ContainsAny_laid s c w h1 h2 h3 h4
def c256 (n:Nat):FE Tryz.prog:=libF (F3 n)
def SL (n:Nat):PF Tryz.prog 295 [.s,.sk [89]] (.b):=aM Tryz.func295 Tryz.call295 [] [] [] [] (ew n)
def RR (n:Nat):PF Tryz.prog 251 [.s,.sk [89]] (.b):=aM Tryz.func251 Tryz.call251 [(SL n).e] [] [] [] (cn n)
def c198 (n:Nat):PF Tryz.prog 198 [.s,.ag q23] (.i .i64):=aM Tryz.func198 Tryz.call198 [(c51 n).e,(c252 n),(c253 n).e,(c53 n).e,(c255 n),(c254 n).e,(c256 n),(RR n).e] [] [] [] (jZ n)
def c134 (n:Nat):FF Tryz.prog 134 [.p 1 0] [.rows q11,.cells q18,.cells q21] 1 3 [⟨.it 197 (.ag [.i .i64,.i .i64]),q50,[],true⟩,⟨.tp [.ag q23,.i .i64],q50,[],false⟩]:=funC Tryz.func134 Tryz.call134 [(c190 n).e,(c195 n).e,(c198 n).e,(OG n).e] [] [] [] [1,2,0] (cO n)
def c135 (n:Nat):FF Tryz.prog 135 [.p 0 0,.ag q23,.i .i64] [.cells [.p 1 0,.i .u8,.bd,.b,.s,.i .i64,.i .i64,.s,.s,.i .u8,.i .u8,.i .u8,.i .u8,.bd,.b,.s,.i .i64,.i .i64,.s,.s,.i .u8,.i .u8,.i .u8,.i .u8,.bd,.b,.s,.i .i64,.i .i64,.s,.s,.i .u8,.i .u8,.i .u8,.ws 2,.b,.b,.i .i64],.cells q21,.rows q11] 3 3 [⟨.it 197 (.ag [.i .i64,.i .i64]),[],[],true⟩,⟨.ag [.i .u8,.bd,.b,.s,.i .i64,.i .i64,.s,.s,.i .u8,.i .u8,.i .u8],[],[],false⟩]:=funC Tryz.func135 Tryz.call135 [(c199 n).e,(c193 n).e] [] [] [] [0,1,2] (co n)
def c132 (n:Nat):FF Tryz.prog 132 [.p 1 0] [.rows q11,.cells q18,.cells q21] 1 3 [⟨.tp [],q50,[],false⟩,⟨.it 197 (.ag [.i .i64,.i .i64]),q50,[],true⟩]:=funC Tryz.func132 Tryz.call132 [(c128 n).e,(OG n).e,(c131 n).e,(c134 n).e,(c135 n).e,(c161 n).e,(c193 n).e] [] [] [] [1,2,0] (eP n)
def c67 (n:Nat):FF Tryz.prog 67 [.p 1 0,.p 2 0] [.rows q11,.cells q41,.cells q21] 1 3 [⟨.it 197 (.ag [.i .i64,.i .i64]),q50,[],true⟩,⟨.tp [],q34,[3],false⟩,⟨.tp [],q50,[],false⟩,⟨.tp [],q35,[3],false⟩]:=funC Tryz.func67 Tryz.call67 [(c128 n).e,(c129 n).e,(c130 n).e,(c131 n).e,(c132 n).e,(c133 n).e,(c134 n).e,(c135 n).e] [] [] [] [1,2,0] (gk n)
def c66 (n:Nat):FF Tryz.prog 66 [.s,.fn 1000067 [.p 1 0]] [.rows q11,.cells q41] 1 2 [⟨.tp [.i .i64,.i .i64],q50,[2],false⟩,⟨.tp [.i .i64,.i .i64],q34,[2,3],false⟩,⟨.tp [.i .i64,.i .i64],q35,[2,3],false⟩]:=funD ⟨(acM [] [] Tryz.f66),2,3,0,9,127,5⟩ Tryz.func66 Tryz.call66 Tryz.func127 Tryz.call127 [(c67 n).e] [] [] [] [1,0] (dA n) (by kernel_rfl) (by kernel_rfl) (by kernel_rfl) (by kernel_rfl)
def c24 (n:Nat):FF Tryz.prog 24 [.s] [] 0 0 [⟨.tp [.ag q14,.i .i64,.i .i64,.i .i64],[(0,.rows q11)],[0],false⟩,⟨.tp [.ag q13,.i .i64,.i .i64,.i .i64],[(0,.rows q11)],[0],false⟩]:=funC Tryz.func24 Tryz.call24 [(c66 n).e] [] [] [] [] (fw n)
def RH (n:Nat):FF Tryz.prog 160 q74 q51 1 1 [⟨.b,[],[],false⟩]:=funC Tryz.func160 Tryz.call160 [] [] [] [] [0] (kT n)
def SH (n:Nat):FF Tryz.prog 218 q72 [.cells q19,.cells q47,.rows q11] 3 3 [⟨.b,[],[],false⟩]:=funC Tryz.func218 Tryz.call218 [(c217 n).e] [] [] [] [0,1,2] (og n)
def Ua (n:Nat):FF Tryz.prog 219 [.p 0 0,.p 1 0,.p 2 0] [.cells [.i .u8,.bd,.b,.s,.i .i64,.i .i64,.s,.s,.i .u8,.i .u8,.i .u8,.i .u8,.bd,.b,.s,.i .i64,.i .i64,.s,.s,.i .u8,.i .u8,.i .u8,.i .u8,.bd,.b,.s,.i .i64,.i .i64,.s,.s,.i .u8,.i .u8,.i .u8,.ws 3,.b,.b],.cells [.i .i64],.cells q19,.rows q11] 4 4 [⟨.b,[],[],false⟩]:=funC Tryz.func219 Tryz.call219 [(c220 n).e] [] [] [] [0,1,2,3] (oh n)
def Q5 (n:Nat):FF Tryz.prog 221 [.p 0 0,.p 1 0,.p 2 0,.p 3 0] [.cells q45,.cells [.i .i64],.cells [.i .i64],.cells q19,.rows q11] 5 5 [⟨.b,[],[],false⟩]:=funC Tryz.func221 Tryz.call221 [(c220 n).e] [] [] [] [0,1,2,3,4] (nV n)
def Q3 (n:Nat):FF Tryz.prog 222 q72 [.cells q47,.cells [.i .i64],.rows q11] 3 3 [⟨.b,[],[],false⟩]:=funC Tryz.func222 Tryz.call222 [] [] [] [] [0,1,2] (nD n)
def Q4 (n:Nat):FF Tryz.prog 216 [.sl 0 0 4 (some (.k 4))] [.cells q52,.cells q19,.cells q46,.cells [.i .i64],.cells [.i .i64],.rows q11] 6 6 [⟨.i .i64,[],[],false⟩]:=funC Tryz.func216 Tryz.call216 [(SH n).e,(Ua n).e,(Q5 n).e,(Q3 n).e] [] [0] [] [0,1,2,3,4,5] (fE n)
def Jk (n:Nat):List (FE Tryz.prog):=[(c217 n).e,(Q4 n).e]
def Nh (n:Nat):LP Tryz.prog Tryz.f162.ntmps:=dG (Jk n) [] 0 (sb (acM [] [] Tryz.f162) 0) true ⟨[(1,.p 1 0),(4,.p 2 0),(13,.ws 0),(14,.i .i64),(15,.i .i64)],[(0,.rows q11),(1,.cells q14),(2,.cells [.i .i64])],3,1,1,1⟩ [] q68 (eM n) n
def QZ (n:Nat):FF Tryz.prog 162 q74 q51 1 1 [⟨.tp [.i .i64,.i .i64],[],[],false⟩]:=funC Tryz.func162 Tryz.call162 (Jk n) [Nh n] [] [] [0] (ka n)
def Ug (n:Nat):FF Tryz.prog 94 q74 q51 1 1 [⟨.tp [.i .i64,.i .i64],[],[],false⟩]:=funC Tryz.func94 Tryz.call94 [(RH n).e,(c60 n).e,(c161 n).e,(QZ n).e] [] [] [] [0] (kj n)
def c48 (n:Nat):FF Tryz.prog 48 q74 q51 1 1 [⟨.i .i64,[],[],false⟩]:=funC Tryz.func48 Tryz.call48 [(Ug n).e] [] [] [] [0] (gB n)
def c74 (n:Nat):FF Tryz.prog 74 [] [] 0 0 [⟨.mp 0,[(0,.mp .u8 [(1,142),(2,143),(3,144),(4,144)])],[0],false⟩]:=funC Tryz.func74 Tryz.call74 [] [] [] [] [] (iY n)
def Q1 (n:Nat):LP Tryz.prog Tryz.f101.ntmps:=dG [] [] 0 (sb (acM [] [] Tryz.f101) 0) false q65 [] [⟨.exit 0,⟨[(3,.i .u8)],[],1,1,1,1⟩⟩] (iK n) n
def c101 (n:Nat):FF Tryz.prog 101 [.sl 0 0 .q (some .q)] [.ints .u8 3] 1 1 [⟨.it 9 (.s),[],[],true⟩,⟨.i .u8,[],[],false⟩]:=funC Tryz.func101 Tryz.call101 [] [Q1 n] [] [] [0] (jM n)
def S5 (n:Nat):LP Tryz.prog Tryz.f102.ntmps:=dG [] [] 0 (sb (acM [] [] Tryz.f102) 0) false q65 [] [⟨.exit 0,⟨[(3,.i .u8)],[],1,1,1,1⟩⟩] (iJ n) n
def c102 (n:Nat):FF Tryz.prog 102 [.sl 0 0 .q (some .q)] [.ints .u8 3] 1 1 [⟨.it 9 (.s),[],[],true⟩,⟨.i .u8,[],[],false⟩]:=funC Tryz.func102 Tryz.call102 [] [S5 n] [] [] [0] (jR n)
def c56 (n:Nat):PF Tryz.prog 56 [.ai .u8 3,.i .i64] (.tp [.ai .u8 3,.ai .u8 3,.i .i64]):=aM Tryz.func56 Tryz.call56 [(c100 n).e,(c101 n).e,(c102 n).e] [] [] [] (nF n)
end
end Go.Sh
