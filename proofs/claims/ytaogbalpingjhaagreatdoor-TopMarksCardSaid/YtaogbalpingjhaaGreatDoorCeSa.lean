/- Each function of the program computes its plain function: the certificates.
   Conditions: none. Printed by the bench tool gen.py. -/
import Derived.Test.YtaogbalpingjhaaGreatDoorYText
set_option linter.unusedVariables false
set_option linter.unusedSimpArgs false
set_option maxRecDepth 100000
set_option maxHeartbeats 4000000
namespace Go.Sh
open Go.Abs Go.Proofs
noncomputable section
abbrev q59:List PB:=[.cells q21]
abbrev q72:List PX:=[⟨.ret,⟨[(4,.i .i64)],[],1,1,1,1⟩⟩,⟨.exit 0,⟨[],[],1,1,1,1⟩⟩]
abbrev q36:List (Nat×PB):=[(0,.cells q21)]
abbrev q70:List (Nat×PB):=[(1,.cells q21)]
abbrev q69:List PV:=[.p 0 0,.p 1 0]
abbrev q64:List PB:=[.cells [.fn 79 [.p 1 0]],.cells [.fn 1000078 [.p 3 0]],.cells q19,.cells q21]
abbrev q62:List (Nat×PB):=[(2,.cells q19),(3,.cells q21)]
abbrev q80:List (Nat×PB):=[(0,.cells q21),(1,.cells q19),(2,.ints .i64 3)]
abbrev q27:List PV:=[.i .i64,.i .i64,.i .i64]
abbrev q49:List PV:=[.i .i8,.i .i64,.i .i8,.i .i64]
abbrev q58:List (Nat×PB):=[(0,.rows [.i .i64])]
abbrev q25:List PV:=[.b,.b,.s,.i .i64,.i .i64,.s,.s,.i .u8,.i .u8,.i .u8,.ws 0,.ws 1]
abbrev q63:List PB:=[.rows [.i .i64]]
abbrev q57:PSt:=⟨[(0,.s),(1,.i .i64),(2,.b),(8,.i .u8),(9,.i .u8),(10,.p 0 0),(11,.p 1 0),(12,.i .i64)],[(0,.ints .u8 18),(1,.ints .u8 18)],2,0,0,0⟩
abbrev q71:List PB:=[.rows [.i .i64],.rows [.i .i64]]
abbrev q54:List (Nat×PB):=[(0,.rows [.i .i64]),(1,.rows [.i .i64]),(2,.cells q25),(3,.cells q27),(4,.cells [.b]),(5,.cells [.ik .i64 0,.ik .i64 0,.ik .i64 0])]
abbrev q12:List (Nat×PB):=[(0,.rows [.i .i64]),(1,.rows [.i .i64]),(2,.cells q25),(3,.cells q27),(4,.cells [.b]),(5,.cells q27),(62,.rows [.i .i64]),(63,.rows [.i .i64])]
abbrev q15:List (Nat×PB):=[(0,.rows [.i .i64]),(1,.rows [.i .i64]),(2,.cells q25),(3,.cells q27),(4,.cells [.b]),(5,.cells q27)]
abbrev q42:PSt:=⟨[(3,.p 2 0),(4,.p 3 0),(5,.p 4 0),(6,.p 5 0),(8,.i .i64),(9,.ws 62),(10,.ws 63),(11,.fn 175 [.p 4 0]),(12,.i .i64),(15,.i .i64),(16,.b),(17,.i .i64),(53,.ws 62),(54,.i .i64),(55,.i .i64)],q12,64,2,2,2⟩
abbrev q44:PSt:=⟨[(3,.p 2 0),(4,.p 3 0),(5,.p 4 0),(6,.p 5 0),(8,.i .i64),(9,.ws 0),(10,.ws 1),(11,.fn 175 [.p 4 0]),(12,.i .i64),(15,.i .i64),(16,.b),(17,.i .i64),(53,.ws 0),(54,.i .i64),(55,.i .i64)],q15,62,2,2,2⟩
abbrev q55:PSt:=⟨[(6,.p 5 0),(7,.b)],[(5,.cells q27)],64,2,2,2⟩
abbrev q24:PSt:=⟨[(3,.p 2 0),(4,.p 3 0),(5,.p 4 0),(6,.p 5 0),(8,.i .i64),(9,.ws 62),(10,.ws 63),(11,.fn 175 [.p 4 0]),(12,.i .i64),(53,.ws 62),(54,.i .i64),(55,.i .i64)],q12,64,2,2,2⟩
abbrev q56:PSt:=⟨[(6,.p 5 0),(7,.b)],[(5,.cells q27)],62,2,2,2⟩
abbrev q26:PSt:=⟨[(3,.p 2 0),(4,.p 3 0),(5,.p 4 0),(6,.p 5 0),(8,.i .i64),(9,.ws 0),(10,.ws 1),(11,.fn 175 [.p 4 0]),(12,.i .i64),(53,.ws 0),(54,.i .i64),(55,.i .i64)],q15,62,2,2,2⟩
abbrev q11:List Lf:=[.bo,.bo,.s,.i .i64,.i .i64,.s,.s,.i .u8,.i .u8,.i .u8,.bo,.bo,.bo,.s,.i .i64,.i .i64,.s,.s,.i .u8,.i .u8,.i .u8]
abbrev q52:List PB:=[.rows q11]
abbrev q13:List PV:=[.i .u8,.bd,.b,.s,.i .i64,.i .i64,.s,.s,.i .u8,.i .u8,.i .u8,.i .u8,.bd,.b,.s,.i .i64,.i .i64,.s,.s,.i .u8,.i .u8,.i .u8,.i .u8,.bd,.b,.s,.i .i64,.i .i64,.s,.s,.i .u8,.i .u8,.i .u8,.rs 21 0 0 .q (some .q),.b,.b]
abbrev q77:List PV:=[.ag q13]
abbrev q48:List PV:=[.i .u8,.b,.b,.s,.i .i64,.i .i64,.s,.s,.i .u8,.i .u8,.i .u8]
abbrev q20:List PV:=[.bd,.b,.s,.i .i64,.i .i64,.s,.s,.i .u8,.i .u8,.i .u8,.b,.bd,.b,.s,.i .i64,.i .i64,.s,.s,.i .u8,.i .u8,.i .u8]
abbrev q23:List PV:=[.bd,.b,.s,.i .i64,.i .i64,.s,.s,.i .u8,.i .u8,.i .u8]
abbrev q39:List PV:=[.i .u8,.bd,.b,.s,.i .i64,.i .i64,.s,.s,.i .u8,.i .u8,.i .u8,.i .u8,.bd,.b,.s,.i .i64,.i .i64,.s,.s,.i .u8,.i .u8,.i .u8,.i .u8,.bd,.b,.s,.i .i64,.i .i64,.s,.s,.i .u8,.i .u8,.i .u8,.rs 21 2 0 .q (some .q),.b,.b]
abbrev q51:List PV:=[.i .i64,.fn 203 [.p 1 0,.p 2 0],.i .i64,.fn 204 [.p 2 0,.p 3 0,.p 1 0],.i .i64,.fn 206 [.p 2 0,.p 3 0,.p 4 0,.p 1 0],.i .i64,.fn 207 [.p 2 0,.p 4 0]]
abbrev q68:List PX:=[⟨.ret,⟨[(2,.i .i64),(3,.i .i64)],[],1,1,1,1⟩⟩,⟨.exit 0,⟨[],[],1,1,1,1⟩⟩]
abbrev q29:List PV:=[.ik .u8 0,.bk false,.bk false,.sk [],.ik .i64 0,.ik .i64 0,.sk [],.sk [],.ik .u8 0,.ik .u8 0,.ik .u8 0,.ik .u8 0,.bk false,.bk false,.sk [],.ik .i64 0,.ik .i64 0,.sk [],.sk [],.ik .u8 0,.ik .u8 0,.ik .u8 0,.ik .u8 0,.bk false,.bk false,.sk [],.ik .i64 0,.ik .i64 0,.sk [],.sk [],.ik .u8 0,.ik .u8 0,.ik .u8 0,.ws 3,.bk false,.bk false]
abbrev q67:List (Nat×PV):=[(0,.p 0 0),(2,.p 1 0),(3,.p 2 0),(5,.s),(6,.ws 3),(7,.p 4 0),(9,.i .i64)]
abbrev q30:List PV:=[.ik .u8 0,.bk false,.bk false,.sk [],.ik .i64 0,.ik .i64 0,.sk [],.sk [],.ik .u8 0,.ik .u8 0,.ik .u8 0,.ik .u8 0,.bk false,.bk false,.sk [],.ik .i64 0,.ik .i64 0,.sk [],.sk [],.ik .u8 0,.ik .u8 0,.ik .u8 0,.ik .u8 0,.bk false,.bk false,.sk [],.ik .i64 0,.ik .i64 0,.sk [],.sk [],.ik .u8 0,.ik .u8 0,.ik .u8 0,.ws 5,.bk false,.bk false]
abbrev q31:List PV:=[.i .u8,.bk false,.bk false,.sk [],.ik .i64 0,.ik .i64 0,.sk [],.sk [],.ik .u8 0,.ik .u8 0,.ik .u8 0,.ik .u8 0,.bk false,.bk false,.sk [],.ik .i64 0,.ik .i64 0,.sk [],.sk [],.ik .u8 0,.ik .u8 0,.ik .u8 0,.ik .u8 0,.bk false,.bk false,.sk [],.ik .i64 0,.ik .i64 0,.sk [],.sk [],.ik .u8 0,.ik .u8 0,.ik .u8 0,.ws 6,.b,.bk false]
abbrev q16:List (Nat×PB):=[(0,.cells q21),(1,.cells q30),(2,.cells q31),(3,.rows [.i .i64]),(4,.cells [.bd,.b,.s,.i .i64,.i .i64,.s,.s,.i .u8,.i .u8,.i .u8,.bk false,.bk false,.bk false,.sk [],.ik .i64 0,.ik .i64 0,.sk [],.sk [],.ik .u8 0,.ik .u8 0,.ik .u8 0]),(5,.rows q11),(6,.rows q11)]
abbrev q60:PSt:=⟨[(0,.p 0 0),(2,.p 1 0),(3,.p 2 0),(5,.s),(6,.ws 3),(7,.p 4 0),(9,.i .i64),(49,.b)],q16,7,1,0,1⟩
abbrev q75:List (Nat×PV):=[(0,.p 0 0),(2,.p 1 0),(3,.p 2 0),(5,.s),(6,.ws 3)]
abbrev q45:List PV:=[.i .u8,.bd,.b,.s,.i .i64,.i .i64,.s,.s,.i .u8,.i .u8,.i .u8,.i .u8,.bd,.b,.s,.i .i64,.i .i64,.s,.s,.i .u8,.i .u8,.i .u8,.i .u8,.bd,.b,.s,.i .i64,.i .i64,.s,.s,.i .u8,.i .u8,.i .u8,.ws 4,.b,.b]
abbrev q46:List PV:=[.i .u8,.bd,.b,.s,.i .i64,.i .i64,.s,.s,.i .u8,.i .u8,.i .u8,.i .u8,.bd,.b,.s,.i .i64,.i .i64,.s,.s,.i .u8,.i .u8,.i .u8,.i .u8,.bd,.b,.s,.i .i64,.i .i64,.s,.s,.i .u8,.i .u8,.i .u8,.ws 5,.b,.b]
abbrev q37:List PV:=[.p 0 0,.i .u8,.bd,.b,.s,.i .i64,.i .i64,.s,.s,.i .u8,.i .u8,.i .u8,.i .u8,.bd,.b,.s,.i .i64,.i .i64,.s,.s,.i .u8,.i .u8,.i .u8,.i .u8,.bd,.b,.s,.i .i64,.i .i64,.s,.s,.i .u8,.i .u8,.i .u8,.rs 21 1 0 .q (some .q),.b,.b,.i .i64]
abbrev q40:List PV:=[.p 0 0,.i .u8,.bd,.b,.s,.i .i64,.i .i64,.s,.s,.i .u8,.i .u8,.i .u8,.i .u8,.bd,.b,.s,.i .i64,.i .i64,.s,.s,.i .u8,.i .u8,.i .u8,.i .u8,.bd,.b,.s,.i .i64,.i .i64,.s,.s,.i .u8,.i .u8,.i .u8,.ws 1,.b,.b,.i .i64]
noncomputable def OW (n:Nat):Ent:=IS 7 (bu n)
theorem Ld (n:Nat):dT Tryz.prog (OW n):=Hf Tryz.call7 (GZ n) (K5 n)
def c7 (n:Nat):FE Tryz.prog:=libF (Ld n)
def c34 (n:Nat):PF Tryz.prog 34 [.i .u8] (.i .i64):=aK Tryz.func34 Tryz.call34 [] [] [] [] (fX n)
def c35 (n:Nat):PF Tryz.prog 35 [] (.ag [.s,.s,.s,.s]):=aK Tryz.func35 Tryz.call35 [] [] [] [] (pZ n)
def c8 (n:Nat):PF Tryz.prog 8 [.i .u8] (.tp q21):=aK Tryz.func8 Tryz.call8 [(c34 n).e,(c35 n).e] [] [] [] (iY n)
def c36E (n:Nat):List (FE Tryz.prog):=[(c34 n).e]
def S1 (n:Nat):LP Tryz.prog Tryz.f36.ntmps:=dn (c36E n) [] 0 (sb (acM [] [] Tryz.f36) 0) false ⟨[(1,.i .i64),(13,.ai .u8 3),(14,.i .i64)],[],1,0,0,0⟩ [] [⟨.ret,⟨[(4,.i .i64)],[],1,0,0,0⟩⟩,⟨.exit 0,⟨[],[],1,0,0,0⟩⟩] (fQ n) n
def c36 (n:Nat):PF Tryz.prog 36 [.ai .u8 3,.i .i64] (.i .i64):=aK Tryz.func36 Tryz.call36 (c36E n) [S1 n] [] [] (cQ n)
def c37 (n:Nat):FF Tryz.prog 37 [.i .i64,.p 2 0,.p 0 0,.p 1 0] [.ints .u8 3,.ints .u8 3,.cells [.i .u8]] 2 3 [⟨.i .u8,[(2,.cells [.i .u8])],[],false⟩]:=funC Tryz.func37 Tryz.call37 [] [] [] [] [2,0,1] (pJ n)
def c9E (n:Nat):List (FE Tryz.prog):=[(c36 n).e,(c37 n).e]
def c9l1 (n:Nat):LP Tryz.prog Tryz.f9.ntmps:=dn (c9E n) [] 1 (sb (acM [0] [] Tryz.f9) 1) false ⟨[(6,.p 2 0),(12,.fn 37 [.p 5 0,.p 1 0,.p 0 0]),(13,.p 6 0),(14,.i .i64)],[(0,.ints .u8 3),(1,.ints .u8 3),(2,.ints .u8 3),(5,.cells [.i .u8]),(6,.ints .u8 3)],7,0,0,0⟩ [] [⟨.exit 2,⟨[(6,.p 2 0),(13,.p 6 0)],[(2,.ints .u8 3),(6,.ints .u8 3)],7,0,0,0⟩⟩] (oN n) n
def c9 (n:Nat):PF Tryz.prog 9 [.ai .u8 3,.ai .u8 3,.i .i64] (.tp [.ai .u8 3,.i .i64]):=aK Tryz.func9 Tryz.call9 (c9E n) [c9l1 n] [0] [] (cN n)
def c143 (n:Nat):FF Tryz.prog 143 [.p 0 0] q59 1 1 [⟨.s,[],[],false⟩]:=funC Tryz.func143 Tryz.call143 [] [] [] [] [0] (bQ n)
def c75 (n:Nat):FF Tryz.prog 75 [.p 0 0] q59 1 1 [⟨.tp [.i .u8,.b],[],[],false⟩]:=funC Tryz.func75 Tryz.call75 [(c143 n).e] [] [] [] [0] (aS n)
def Q6 (n:Nat):LP Tryz.prog Tryz.f144.ntmps:=dn [] [] 0 (sb (acM [] [] Tryz.f144) 0) false ⟨[(0,.sl 0 0 4 (some (.k 4))),(1,.s),(7,.i .i64),(8,.i .i64)],[(0,.cells [.s,.s,.s,.s])],1,1,1,1⟩ [] q72 (gp n) n
def c144 (n:Nat):FF Tryz.prog 144 [.sl 0 0 4 (some (.k 4)),.s] [.cells [.s,.s,.s,.s]] 1 1 [⟨.i .i64,[],[],false⟩]:=funC Tryz.func144 Tryz.call144 [] [Q6 n] [] [] [0] (ij n)
def c76 (n:Nat):PF Tryz.prog 76 [.i .u8] (.tp [.i .u8,.b]):=aK Tryz.func76 Tryz.call76 [(c35 n).e,(c144 n).e] [] [] [] (m8 n)
def c85 (n:Nat):FF Tryz.prog 85 [.p 0 0] q59 1 1 [⟨.i .i64,[],[],false⟩]:=funC Tryz.func85 Tryz.call85 [] [] [] [] [0] (bj n)
def c146 (n:Nat):FF Tryz.prog 146 [.p 0 0,.i .i64,.i .i64] q59 1 1 [⟨.it 131 (.ag [.i .i64,.i .i64]),[],[],true⟩]:=funC Tryz.func146 Tryz.call146 [] [] [] [] [0] (aF n)
def c77 (n:Nat):FF Tryz.prog 77 [.p 0 0,.s] q59 0 1 [⟨.it 131 (.ag [.i .i64,.i .i64]),q36,[],true⟩,⟨.i .u8,q36,[],false⟩]:=funC Tryz.func77 Tryz.call77 [(c75 n).e,(c85 n).e,(c146 n).e,(c145 n).e] [] [] [] [0] (bK n)
def c74 (n:Nat):FF Tryz.prog 74 [.p 0 0] [.cells [.p 1 0],.cells q21] 1 2 [⟨.it 131 (.ag [.i .i64,.i .i64]),q70,[],true⟩,⟨.i .u8,q70,[],false⟩]:=funC Tryz.func74 Tryz.call74 [(c75 n).e,(c76 n).e,(c77 n).e] [] [] [] [0,1] (bS n)
def c232 (n:Nat):PF Tryz.prog 232 [.s,.s] (.b):=aK Tryz.func232 Tryz.call232 [] [] [] [] (fb n)
def c196 (n:Nat):PF Tryz.prog 196 [.s,.s] (.b):=aK Tryz.func196 Tryz.call196 [(c232 n).e] [] [] [] (ic n)
def c148 (n:Nat):FF Tryz.prog 148 [.p 0 0,.s] q59 1 1 [⟨.b,[],[],false⟩]:=funC Tryz.func148 Tryz.call148 [(c143 n).e,(c196 n).e] [] [] [] [0] (ei n)
def c84 (n:Nat):FF Tryz.prog 84 [.p 0 0,.s] q59 0 1 [⟨.b,q36,[],false⟩]:=funC Tryz.func84 Tryz.call84 [(c148 n).e] [] [] [] [0] (aA n)
def c78E (n:Nat):List (FE Tryz.prog):=[(c85 n).e,(c75 n).e,(c145 n).e,(c146 n).e]
def S9 (n:Nat):LP Tryz.prog Tryz.f78.ntmps:=dn (c78E n) [] 0 (sb (acM [] [] Tryz.f78) 0) false ⟨[(0,.p 0 0),(1,.s),(2,.i .i64),(3,.i .i64),(9,.i .i64),(10,.i .u8),(11,.b)],q36,1,1,0,1⟩ [] [⟨.exit 0,⟨[(0,.p 0 0),(2,.i .i64),(9,.i .i64)],q36,1,1,0,1⟩⟩] (ci n) n
def c78 (n:Nat):FF Tryz.prog 78 [.p 0 0,.s,.i .i64,.i .i64] q59 0 1 [⟨.it 131 (.ag [.i .i64,.i .i64]),q36,[],true⟩,⟨.s,q36,[],false⟩]:=funC Tryz.func78 Tryz.call78 (c78E n) [S9 n] [] [] [0] (bC n)
noncomputable def LM (_n:Nat):Ent:=PM 52 235
theorem Jc (n:Nat):dT Tryz.prog (LM n):=KI Tryz.call52 (λs n hl h w=>(Tryz.strconv_Atoi s n hl h w).mono λe w' ⟨h1,t,h2⟩=>⟨h1,h2▸nQ _ _ _⟩) (λs hl h w hg=>Lh s hl h w hg)
def c52 (n:Nat):FE Tryz.prog:=libF (Jc n)
def c147 (n:Nat):FF Tryz.prog 147 [.s,.p 0 0] [.cells [.p 1 0],.cells q21] 1 2 [⟨.i .i64,q70,[],false⟩,⟨.it 131 (.ag [.i .i64,.i .i64]),q70,[],true⟩]:=funC Tryz.func147 Tryz.call147 [(c84 n).e,(c77 n).e,(c78 n).e,(c52 n)] [] [] [] [0,1] (cv n)
def c81 (n:Nat):FF Tryz.prog 81 [.p 0 0] q59 0 1 [⟨.it 131 (.ag [.i .i64,.i .i64]),q36,[],true⟩,⟨.ag q32,q36,[],false⟩]:=funC Tryz.func81 Tryz.call81 [(c84 n).e,(c77 n).e,(c78 n).e,(c147 n).e] [] [] [] [0] (ka n)
def c80 (n:Nat):FF Tryz.prog 80 q69 [.cells [.p 2 0],.cells q19,.cells q21] 1 3 [⟨.it 131 (.ag [.i .i64,.i .i64]),[(1,.cells q19),(2,.cells q21)],[],true⟩,⟨.tp [],[(1,.cells q19),(2,.cells q21)],[],false⟩]:=funC Tryz.func80 Tryz.call80 [(c81 n).e] [] [] [] [0,1,2] (iG n)
def c79 (n:Nat):FF Tryz.prog 79 [.p 0 0] [.cells [.fn 1000078 [.p 1 0]],.cells q21] 1 2 [⟨.it 131 (.ag [.i .i64,.i .i64]),q70,[],true⟩,⟨.s,q70,[],false⟩]:=funC Tryz.func79 Tryz.call79 [(c78 n).e] [] [] [] [0,1] (gy n)
def c82 (n:Nat):FF Tryz.prog 82 [.p 0 0,.p 2 0] q64 2 4 [⟨.it 131 (.ag [.i .i64,.i .i64]),q62,[],true⟩,⟨.tp [],q62,[],false⟩]:=funC Tryz.func82 Tryz.call82 [(c79 n).e] [] [] [] [0,2,1,3] (iJ n)
def c83 (n:Nat):FF Tryz.prog 83 [.p 0 0,.p 2 0] q64 2 4 [⟨.it 131 (.ag [.i .i64,.i .i64]),q62,[],true⟩,⟨.tp [],q62,[],false⟩]:=funC Tryz.func83 Tryz.call83 [(c79 n).e] [] [] [] [0,2,1,3] (iL n)
def c40 (n:Nat):FF Tryz.prog 40 [.p 0 0] q59 0 1 [⟨.it 131 (.ag [.i .i64,.i .i64]),q36,[],true⟩,⟨.tp [.ag q19,.ai .i64 3],q36,[],false⟩]:=funC Tryz.func40 Tryz.call40 [(c74 n).e,(c85 n).e,(c80 n).e,(c9 n).e,(c84 n).e,(c82 n).e,(c83 n).e] [] [0] [] [0] (gB n)
def c39 (n:Nat):FF Tryz.prog 39 [.p 0 0,.p 1 0,.p 2 0] [.cells q21,.cells q19,.ints .i64 3] 0 3 [⟨.it 131 (.ag [.i .i64,.i .i64]),q80,[],true⟩,⟨.tp [],q80,[],false⟩]:=funC Tryz.func39 Tryz.call39 [(c40 n).e] [] [] [] [0,1,2] (jO n)
def c38 (n:Nat):FF Tryz.prog 38 [.s,.fn 39 q69] [.cells q19,.ints .i64 3] 0 2 [⟨.tp [.i .i64,.i .i64],[(0,.cells q19),(1,.ints .i64 3)],[],false⟩]:=funD ⟨(acM [] [] Tryz.f38),2,3,0,9,73,5⟩ Tryz.func38 Tryz.call38 Tryz.func73 Tryz.call73 [(c39 n).e] [] [] [] [0,1] (dI n) (by kernel_rfl) (by kernel_rfl) (by kernel_rfl) (by kernel_rfl)
def c128 (n:Nat):PF Tryz.prog 128 [.i .i64] (.i .i64):=aK Tryz.func128 Tryz.call128 [] [] [] [] (cT n)
theorem pure_seasons_Check (n:Nat):∀a r,cT n a=some r->jh Tryz.prog 128 (argP [.i .i64] a) (encP (.i .i64) r):=λa r h=>(c128 n).ok a r h
def c64 (n:Nat):PF Tryz.prog 64 q66 (.tp [.i .i64,.b]):=aK Tryz.func64 Tryz.call64 [(c52 n),(c128 n).e] [] [] [] (aY n)
def c16 (n:Nat):PF Tryz.prog 16 [.ag q32] (.tp [.i .i64,.i .i64]):=aK Tryz.func16 Tryz.call16 [(c29 n).e,(c48 n).e,(c49 n).e] [] [] [] (dB n)
noncomputable def wm (l:List V):Option (Int):=match l with
 | [.i .i64 a0]=>some (a0)
 | _=>none
noncomputable def Hl (n:Nat):Ent:=zb 180 wm (λa=>dY n a) (λr=>.tp [.i .i64 r.1,.i .i64 r.2.1,.i .i64 r.2.2])
theorem Fq (n:Nat):dT Tryz.prog (Hl n):=qE (arg:=λa=>[.i .i64 a]) Tryz.call180 (λl a h=>by
 unfold wm at h
 split at h
 ·cases h;rfl
 ·cases h) (λa=>rfl) (λa r h=>qi n (λx r h=>pure_seasons_Check n x r h) a r h)
def c180 (n:Nat):FE Tryz.prog:=libF (Fq n)
def c54 (n:Nat):PF Tryz.prog 54 [.i .i64] (.i .i64):=aK Tryz.func54 Tryz.call54 [] [] [] [] (gQ n)
def c59 (n:Nat):PF Tryz.prog 59 [.i .i64,.i .i64] (.i .i64):=aK Tryz.func59 Tryz.call59 [(c54 n).e] [] [] [] (iR n)
def c57 (n:Nat):PF Tryz.prog 57 [.i .i64,.i .i64] (.tp [.i .i64,.i .i64]):=aK Tryz.func57 Tryz.call57 [] [] [] [] (Dj n)
def c183 (n:Nat):PF Tryz.prog 183 [.i .i64,.i .i64] (.tp [.i .i64,.i .i64]):=aK Tryz.func183 Tryz.call183 [(c57 n).e] [] [] [] (jY n)
theorem pure_ints_Div (n:Nat):∀a r,jY n a.1 a.2=some r->jh Tryz.prog 183 (argP [.i .i64,.i .i64] a) (encP (.tp [.i .i64,.i .i64]) r):=λa r h=>(c183 n).ok a r h
noncomputable def wv (l:List V):Option (Int):=match l with
 | [.i .i64 a0]=>some (a0)
 | _=>none
noncomputable def Jf (n:Nat):Ent:=zb 120 wv (λa=>ef n a) (λr=>.i .i64 r)
theorem Gf (n:Nat):dT Tryz.prog (Jf n):=qE (arg:=λa=>[.i .i64 a]) Tryz.call120 (λl a h=>by
 unfold wv at h
 split at h
 ·cases h;rfl
 ·cases h) (λa=>rfl) (λa r h=>rW n (λx y r h=>pure_ints_Div n (x,y) r h) a r h)
def c120 (n:Nat):FE Tryz.prog:=libF (Gf n)
def c55 (n:Nat):PF Tryz.prog 55 [.i .i64] (.i .i64):=aK Tryz.func55 Tryz.call55 [(c120 n)] [] [] [] (jI n)
def c112 (n:Nat):PF Tryz.prog 112 [.i .i64] (.tp [.i .i64,.i .i64]):=aK Tryz.func112 Tryz.call112 [(c54 n).e,(c55 n).e] [] [] [] (jQ n)
def c123 (n:Nat):PF Tryz.prog 123 [.i .i64] (.tp [.b,.i .i64]):=aK Tryz.func123 Tryz.call123 [(c54 n).e,(c120 n)] [] [] [] (iQ n)
theorem pure_years_Leap (n:Nat):∀a r,iQ n a=some r->jh Tryz.prog 123 (argP [.i .i64] a) (encP (.tp [.b,.i .i64]) r):=λa r h=>(c123 n).ok a r h
noncomputable def AQ (l:List V):Option (Int×Int):=match l with
 | [.i .i64 a0,.i .i64 a1]=>some (a0,a1)
 | _=>none
noncomputable def Mc (n:Nat):Ent:=zb 60 AQ (λa=>dw n a.1 a.2) (λr=>.i .i64 r)
theorem JI (n:Nat):dT Tryz.prog (Mc n):=qE (arg:=λa=>[.i .i64 a.1,.i .i64 a.2]) Tryz.call60 (λl a h=>by
 unfold AQ at h
 split at h
 ·cases h;rfl
 ·cases h) (λa=>rfl) (λa r h=>qZ n (λx r h=>pure_years_Leap n x r h) a.1 a.2 r h)
def c60 (n:Nat):FE Tryz.prog:=libF (JI n)
def Sr (n:Nat):List (FE Tryz.prog):=[(c59 n).e,(c112 n).e,(c60 n)]
def Q7 (n:Nat):LP Tryz.prog Tryz.f116.ntmps:=dn (Sr n) [] 0 (sb (acM [] [] Tryz.f116) 0) false ⟨[(0,.i .i64),(7,.i .i64),(22,.i .i64),(23,.i .i64)],[],0,0,0,0⟩ [] [⟨.exit 0,⟨[(7,.i .i64)],[],0,0,0,0⟩⟩] (bm n) n
def c116 (n:Nat):PF Tryz.prog 116 [.i .i64,.i .i64] (.tp [.i .i64,.i .i64]):=aK Tryz.func116 Tryz.call116 (Sr n) [Q7 n] [] [] (dZ n)
noncomputable def Az (l:List V):Option (Int×Int):=match l with
 | [.i .i64 a0,.i .i64 a1]=>some (a0,a1)
 | _=>none
noncomputable def KH (n:Nat):Ent:=zb 58 Az (λa=>oO n a.1 a.2) (λr=>.tp [.i .i64 r.1,.i .i64 r.2])
theorem H8 (n:Nat):dT Tryz.prog (KH n):=qE (arg:=λa=>[.i .i64 a.1,.i .i64 a.2]) Tryz.call58 (λl a h=>by
 unfold Az at h
 split at h
 ·cases h;rfl
 ·cases h) (λa=>rfl) (λa r h=>yg n a.1 a.2 r h)
def c58 (n:Nat):FE Tryz.prog:=libF (H8 n)
def c220 (n:Nat):PF Tryz.prog 220 [.i .i64,.i .i64] (.tp [.i .i64,.i .i64]):=aK Tryz.func220 Tryz.call220 [] [] [] [] (th n)
def c181 (n:Nat):PF Tryz.prog 181 q27 (.tp q27):=aK Tryz.func181 Tryz.call181 [(c59 n).e,(c58 n),(c183 n).e,(c220 n).e,(c54 n).e] [] [] [] (my n)
def c117 (n:Nat):PF Tryz.prog 117 [.i .i64,.i .i64] (.tp [.i .i64,.i .i64]):=aK Tryz.func117 Tryz.call117 [(c116 n).e,(c60 n)] [] [] [] (fD n)
def c110 (n:Nat):PF Tryz.prog 110 [.i .i64,.i .i64] (.tp [.ag q49,.i .i64]):=aK Tryz.func110 Tryz.call110 [(c180 n),(c116 n).e,(c181 n).e,(c117 n).e] [] [] [] (gh n)
def c86 (n:Nat):PF Tryz.prog 86 q66 (.b):=aK Tryz.func86 Tryz.call86 [(c29 n).e,(c64 n).e,(c48 n).e,(c16 n).e,(c110 n).e] [] [] [] (ep n)
def SY (n:Nat):LP Tryz.prog Tryz.f87.ntmps:=dn [] [] 0 (sb (acM [] [] Tryz.f87) 0) false ⟨[(0,.s),(1,.i .i64),(5,.i .i64)],[],0,0,0,0⟩ [] [⟨.ret,⟨[(4,.b)],[],0,0,0,0⟩⟩,⟨.exit 0,⟨[],[],0,0,0,0⟩⟩] (cG n) n
def c87 (n:Nat):PF Tryz.prog 87 q21 (.b):=aK Tryz.func87 Tryz.call87 [] [SY n] [] [] (cw n)
def c41 (n:Nat):PF Tryz.prog 41 q66 (.i .i64):=aK Tryz.func41 Tryz.call41 [(c64 n).e,(c86 n).e,(c87 n).e,(c6 n).e,(c36 n).e] [] [] [] (fF n)
def c10 (n:Nat):PF Tryz.prog 10 [.s] (.tp [.ag q19,.i .i64,.i .i64]):=aK Tryz.func10 Tryz.call10 [(c38 n).e,(c41 n).e] [] [] [] (fH n)
def c162 (n:Nat):PF Tryz.prog 162 [.i .u8] (.tp [.s,.s]):=aK Tryz.func162 Tryz.call162 [] [] [] [] (du n)
def c211 (n:Nat):PF Tryz.prog 211 q21 (.b):=aK Tryz.func211 Tryz.call211 [] [] [] [] (jk n)
def Ql (n:Nat):List (FE Tryz.prog):=[(c211 n).e]
def Qb (n:Nat):LP Tryz.prog Tryz.f163.ntmps:=dn (Ql n) [] 0 (sb (acM [] [] Tryz.f163) 0) false ⟨[(0,.s),(5,.ws 0),(7,.i .i64),(8,.i .i64)],q58,1,0,0,0⟩ [.nilT 5 0 [.i .i64]] [⟨.exit 0,⟨[(5,.ws 0)],q58,1,0,0,0⟩⟩] (eN n) n
def c163 (n:Nat):FF Tryz.prog 163 q21 [] 0 0 [⟨.ws 0,q58,[0],false⟩]:=funC Tryz.func163 Tryz.call163 (Ql n) [Qb n] [] [] [] (dO n)
def c98 (n:Nat):FF Tryz.prog 98 q66 [] 0 0 [⟨.ag q25,[(0,.rows [.i .i64]),(1,.rows [.i .i64])],[0,1],false⟩]:=funC Tryz.func98 Tryz.call98 [(c64 n).e,(c163 n).e] [] [] [] [] (ly n)
def c173 (n:Nat):FF Tryz.prog 173 [.ws 0] q63 1 1 [⟨.ws 1,[(1,.rows [.i .i64])],[1],false⟩]:=funC Tryz.func173 Tryz.call173 [] [] [] [] [0] (io n)
def QM (n:Nat):LP Tryz.prog Tryz.f174.ntmps:=dn [] [] 0 (sb (acM [] [] Tryz.f174) 0) false ⟨[(0,.ws 0),(2,.i .i64),(3,.i .i64)],q58,1,1,0,1⟩ [] [⟨.exit 0,⟨[],q58,1,1,0,1⟩⟩] (iD n) n
def c174 (n:Nat):FF Tryz.prog 174 [.ws 0] q63 0 1 [⟨.tp [],q58,[],false⟩]:=funC Tryz.func174 Tryz.call174 [] [QM n] [] [] [0] (gF n)
def Qs (n:Nat):LP Tryz.prog Tryz.f164.ntmps:=dn [] [] 0 (sb (acM [] [] Tryz.f164) 0) false ⟨[(0,.s),(9,.p 0 0)],[(0,.iter)],1,0,0,0⟩ [] [⟨.ret,⟨[(2,.i .i64)],[],1,0,0,0⟩⟩,⟨.exit 0,⟨[(0,.s)],[],1,0,0,0⟩⟩] (gD n) n
def c164 (n:Nat):PF Tryz.prog 164 [.s] (.i .i64):=aK Tryz.func164 Tryz.call164 [] [Qs n] [] [] (gR n)
def Rm (n:Nat):LP Tryz.prog Tryz.f259.ntmps:=dn [] [] 0 (sb (acM [] [] Tryz.f259) 0) false ⟨[(1,.i .u8),(5,.i .i64),(9,.ws 0),(10,.i .i64),(11,.i .i64)],[(0,.rows [.i .u8])],1,0,0,0⟩ [] [⟨.exit 0,⟨[(5,.i .i64)],[],1,0,0,0⟩⟩] (fN n) n
def c259 (n:Nat):PF Tryz.prog 259 [.s,.i .u8] (.i .i64):=aK Tryz.func259 Tryz.call259 [] [Rm n] [] [] (kD n)
def c245 (n:Nat):PF Tryz.prog 245 [.s] (.tp [.i .i64,.i .i64]):=aK Tryz.func245 Tryz.call245 [(c164 n).e,(c259 n).e] [] [] [] (nG n)
def c165 (n:Nat):PF Tryz.prog 165 [.i .i64] (.i .i64):=aK Tryz.func165 Tryz.call165 [(c104 n).e] [] [] [] (lD n)
def c246 (n:Nat):PF Tryz.prog 246 q21 (.b):=aK Tryz.func246 Tryz.call246 [(c165 n).e] [] [] [] (kq n)
def Rw (n:Nat):LP Tryz.prog Tryz.f260.ntmps:=dn [] [] 0 (sb (acM [] [] Tryz.f260) 0) false ⟨[(1,.i .i64),(4,.p 0 0),(5,.i .i64)],[(0,.ints .u8 18)],1,0,0,0⟩ [] [⟨.exit 0,⟨[(4,.p 0 0)],[(0,.ints .u8 18)],1,0,0,0⟩⟩] (gz n) n
def c260 (n:Nat):PF Tryz.prog 260 q21 (.ai .u8 18):=aK Tryz.func260 Tryz.call260 [] [Rw n] [] [] (jX n)
def c261 (n:Nat):PF Tryz.prog 261 [.s,.ai .u8 18] (.i .i64):=aK Tryz.func261 Tryz.call261 [(c259 n).e] [] [] [] (fk n)
def J6 (n:Nat):List (FE Tryz.prog):=[(c260 n).e,(c261 n).e]
def RI (n:Nat):LP Tryz.prog Tryz.f247.ntmps:=dn (J6 n) [] 0 (sb (acM [] [] Tryz.f247) 0) false q57 [] [⟨.exit 0,q57⟩] (eu n) n
def Qi (n:Nat):LP Tryz.prog Tryz.f247.ntmps:=dn (J6 n) [] 1 (sb (acM [] [] Tryz.f247) 1) false ⟨[(0,.s),(2,.b),(8,.i .u8),(9,.i .u8),(10,.p 0 0),(11,.p 1 0),(12,.i .i64)],[(0,.ints .u8 18),(1,.ints .u8 18)],74,0,0,0⟩ [] [⟨.ret,⟨[(6,.i .i64),(7,.i .i64)],[],74,0,0,0⟩⟩,⟨.exit 2,⟨[(0,.s),(2,.b),(8,.i .u8),(11,.p 1 0),(12,.i .i64)],[(1,.ints .u8 18)],74,0,0,0⟩⟩] (bP n) n
def Rk (n:Nat):LP Tryz.prog Tryz.f247.ntmps:=dn (J6 n) [] 2 (sb (acM [] [] Tryz.f247) 2) false ⟨[(0,.s),(8,.i .u8),(11,.p 1 0),(12,.i .i64)],[(1,.ints .u8 18)],74,0,0,0⟩ [] [⟨.exit 5,⟨[(0,.s),(11,.p 1 0)],[(1,.ints .u8 18)],74,0,0,0⟩⟩] (ba n) n
def c247 (n:Nat):PF Tryz.prog 247 [.s,.i .i64,.b] (.tp [.i .i64,.i .i64]):=aK Tryz.func247 Tryz.call247 (J6 n) [RI n,Qi n,Rk n] [] [] (cK n)
def c214 (n:Nat):PF Tryz.prog 214 q21 (.tp [.i .i64,.i .i64]):=aK Tryz.func214 Tryz.call214 [(c164 n).e,(c245 n).e,(c246 n).e,(c247 n).e] [] [] [] (pa n)
def c248 (n:Nat):PF Tryz.prog 248 [.s] (.tp [.i .i64,.i .i64]):=aK Tryz.func248 Tryz.call248 [(c164 n).e,(c259 n).e] [] [] [] (kl n)
def c215 (n:Nat):PF Tryz.prog 215 q21 (.tp [.i .i64,.i .i64]):=aK Tryz.func215 Tryz.call215 [(c164 n).e,(c246 n).e,(c248 n).e,(c247 n).e] [] [] [] (oS n)
def c167 (n:Nat):PF Tryz.prog 167 [.s,.i .i64,.b,.i .i64] (.tp [.i .i64,.b]):=aK Tryz.func167 Tryz.call167 [(c214 n).e,(c215 n).e] [] [] [] (ew n)
def c100 (n:Nat):FF Tryz.prog 100 [.ag q25,.i .i64,.b] q71 2 2 [⟨.tp [.i .i64,.b],[],[],false⟩]:=funC Tryz.func100 Tryz.call100 [(c48 n).e,(c16 n).e,(c167 n).e] [] [] [] [0,1] (aQ n)
def c175 (n:Nat):FF Tryz.prog 175 [.i .i64,.i .i64,.p 0 0] [.cells [.b]] 1 1 [⟨.b,[],[],false⟩]:=funC Tryz.func175 Tryz.call175 [] [] [] [] [0] (ch n)
def c20 (n:Nat):PF Tryz.prog 20 [.i .i64,.i .i64] (.tp [.i .i64,.i .i64]):=aK Tryz.func20 Tryz.call20 [(c59 n).e,(c60 n)] [] [] [] (mN n)
def c101 (n:Nat):FF Tryz.prog 101 [.ag q25,.i .i64,.i .i64] q71 2 2 [⟨.i .i64,[],[],false⟩]:=funC Tryz.func101 Tryz.call101 [(c20 n).e] [] [] [] [0,1] (cY n)
def pu (n:Nat):List (FE Tryz.prog):=[(c173 n).e,(c174 n).e,(c100 n).e,(c175 n).e,(c101 n).e]
def Qk (n:Nat):LP Tryz.prog Tryz.f106.ntmps:=sH (pu n) [] 1003 (sb (acM [] [3,17,20,23,30] Tryz.f106) 1003) false ⟨[(3,.p 2 0),(4,.p 3 0),(5,.p 4 0),(6,.p 5 0),(8,.ik .i64 1),(9,.ws 0),(10,.ws 1),(25,.b)],q54,62,2,2,2⟩ [⟨.nrm,⟨[(3,.p 2 0),(4,.p 3 0),(5,.p 4 0),(6,.p 5 0),(8,.ik .i64 (-1)),(9,.ws 62),(10,.ws 63)],[(0,.rows [.i .i64]),(1,.rows [.i .i64]),(2,.cells q25),(3,.cells q27),(4,.cells [.b]),(5,.cells [.ik .i64 0,.ik .i64 0,.ik .i64 0]),(62,.rows [.i .i64]),(63,.rows [.i .i64])],64,2,2,2⟩⟩,⟨.nrm,⟨[(3,.p 2 0),(4,.p 3 0),(5,.p 4 0),(6,.p 5 0),(8,.ik .i64 1),(9,.ws 0),(10,.ws 1)],q54,62,2,2,2⟩⟩] (gO n)
def IX (n:Nat):LP Tryz.prog Tryz.f106.ntmps:=sH (pu n) [] 1020 (sb (sb (sb (sb (acM [] [3,17,20,23,30] Tryz.f106) 0).body 1).body 1017) 1020) false ⟨[(3,.p 2 0),(4,.p 3 0),(5,.p 4 0),(6,.p 5 0),(8,.i .i64),(9,.ws 62),(10,.ws 63),(11,.fn 175 [.p 4 0]),(12,.i .i64),(15,.i .i64),(16,.b),(53,.ws 62),(54,.i .i64),(55,.i .i64)],q12,64,2,2,2⟩ [⟨.nrm,⟨[(3,.p 2 0),(4,.p 3 0),(5,.p 4 0),(6,.p 5 0),(8,.i .i64),(9,.ws 62),(10,.ws 63),(11,.fn 175 [.p 4 0]),(12,.i .i64),(15,.i .i64),(16,.b),(53,.ws 62),(54,.i .i64),(55,.i .i64),(76,.b)],q12,64,2,2,2⟩⟩] (jx n)
def D6 (n:Nat):LP Tryz.prog Tryz.f106.ntmps:=sH (pu n) [] 1020 (sb (sb (sb (sb (acM [] [3,17,20,23,30] Tryz.f106) 0).body 1).body 1017) 1020) false ⟨[(3,.p 2 0),(4,.p 3 0),(5,.p 4 0),(6,.p 5 0),(8,.i .i64),(9,.ws 0),(10,.ws 1),(11,.fn 175 [.p 4 0]),(12,.i .i64),(15,.i .i64),(16,.b),(53,.ws 0),(54,.i .i64),(55,.i .i64)],q15,62,2,2,2⟩ [⟨.nrm,⟨[(3,.p 2 0),(4,.p 3 0),(5,.p 4 0),(6,.p 5 0),(8,.i .i64),(9,.ws 0),(10,.ws 1),(11,.fn 175 [.p 4 0]),(12,.i .i64),(15,.i .i64),(16,.b),(53,.ws 0),(54,.i .i64),(55,.i .i64),(76,.b)],q15,62,2,2,2⟩⟩] (dN n)
def I8 (n:Nat):LP Tryz.prog Tryz.f106.ntmps:=sH (pu n) [] 1023 (sb (sb (sb (sb (acM [] [3,17,20,23,30] Tryz.f106) 0).body 1).body 1017) 1023) false q42 [⟨.nrm,q42⟩] (jA n)
def Ew (n:Nat):LP Tryz.prog Tryz.f106.ntmps:=sH (pu n) [] 1023 (sb (sb (sb (sb (acM [] [3,17,20,23,30] Tryz.f106) 0).body 1).body 1017) 1023) false q44 [⟨.nrm,q44⟩] (dM n)
def I5 (n:Nat):LP Tryz.prog Tryz.f106.ntmps:=sH (pu n) [] 1030 (sb (sb (sb (sb (sb (acM [] [3,17,20,23,30] Tryz.f106) 0).body 1).body 1017) 2).body 1030) false ⟨[(3,.p 2 0),(4,.p 3 0),(5,.p 4 0),(6,.p 5 0),(8,.i .i64),(9,.ws 62),(10,.ws 63),(11,.fn 175 [.p 4 0]),(12,.i .i64),(15,.i .i64),(16,.b),(17,.i .i64),(19,.i .i64),(53,.ws 62),(54,.i .i64),(55,.i .i64),(94,.ws 63),(95,.i .i64),(96,.i .i64)],q12,64,2,2,2⟩ [⟨.nrm,⟨[(3,.p 2 0),(4,.p 3 0),(5,.p 4 0),(6,.p 5 0),(8,.i .i64),(9,.ws 62),(10,.ws 63),(11,.fn 175 [.p 4 0]),(12,.i .i64),(15,.i .i64),(16,.b),(17,.i .i64),(19,.i .i64),(53,.ws 62),(54,.i .i64),(55,.i .i64),(94,.ws 63),(95,.i .i64),(96,.i .i64),(119,.b)],q12,64,2,2,2⟩⟩] (jC n)
def C7 (n:Nat):LP Tryz.prog Tryz.f106.ntmps:=sH (pu n) [] 1030 (sb (sb (sb (sb (sb (acM [] [3,17,20,23,30] Tryz.f106) 0).body 1).body 1017) 2).body 1030) false ⟨[(3,.p 2 0),(4,.p 3 0),(5,.p 4 0),(6,.p 5 0),(8,.i .i64),(9,.ws 0),(10,.ws 1),(11,.fn 175 [.p 4 0]),(12,.i .i64),(15,.i .i64),(16,.b),(17,.i .i64),(19,.i .i64),(53,.ws 0),(54,.i .i64),(55,.i .i64),(94,.ws 1),(95,.i .i64),(96,.i .i64)],q15,62,2,2,2⟩ [⟨.nrm,⟨[(3,.p 2 0),(4,.p 3 0),(5,.p 4 0),(6,.p 5 0),(8,.i .i64),(9,.ws 0),(10,.ws 1),(11,.fn 175 [.p 4 0]),(12,.i .i64),(15,.i .i64),(16,.b),(17,.i .i64),(19,.i .i64),(53,.ws 0),(54,.i .i64),(55,.i .i64),(94,.ws 1),(95,.i .i64),(96,.i .i64),(119,.b)],q15,62,2,2,2⟩⟩] (fZ n)
def NP (n:Nat):LP Tryz.prog Tryz.f106.ntmps:=dn (pu n) [altL (I5 n) (C7 n) rfl] 2 (sb (sb (sb (sb (acM [] [3,17,20,23,30] Tryz.f106) 0).body 1).body 1017) 2) false ⟨[(3,.p 2 0),(4,.p 3 0),(5,.p 4 0),(6,.p 5 0),(8,.i .i64),(9,.ws 62),(10,.ws 63),(11,.fn 175 [.p 4 0]),(12,.i .i64),(15,.i .i64),(16,.b),(17,.i .i64),(53,.ws 62),(54,.i .i64),(55,.i .i64),(94,.ws 63),(95,.i .i64),(96,.i .i64)],q12,64,2,2,2⟩ [] [⟨.ret,q55⟩,⟨.exit 4,q24⟩] (ku n) n
def IN (n:Nat):LP Tryz.prog Tryz.f106.ntmps:=dn (pu n) [altL (I5 n) (C7 n) rfl] 2 (sb (sb (sb (sb (acM [] [3,17,20,23,30] Tryz.f106) 0).body 1).body 1017) 2) false ⟨[(3,.p 2 0),(4,.p 3 0),(5,.p 4 0),(6,.p 5 0),(8,.i .i64),(9,.ws 0),(10,.ws 1),(11,.fn 175 [.p 4 0]),(12,.i .i64),(15,.i .i64),(16,.b),(17,.i .i64),(53,.ws 0),(54,.i .i64),(55,.i .i64),(94,.ws 1),(95,.i .i64),(96,.i .i64)],q15,62,2,2,2⟩ [] [⟨.ret,q56⟩,⟨.exit 4,q26⟩] (bn n) n
def Jj (n:Nat):LP Tryz.prog Tryz.f106.ntmps:=sH (pu n) [altL (IX n) (D6 n) rfl,altL (I8 n) (Ew n) rfl,altL (NP n) (IN n) rfl] 1017 (sb (sb (sb (acM [] [3,17,20,23,30] Tryz.f106) 0).body 1).body 1017) false q24 [⟨.nrm,q24⟩,⟨.ret,q55⟩] (jz n)
def EQ (n:Nat):LP Tryz.prog Tryz.f106.ntmps:=sH (pu n) [altL (IX n) (D6 n) rfl,altL (I8 n) (Ew n) rfl,altL (NP n) (IN n) rfl] 1017 (sb (sb (sb (acM [] [3,17,20,23,30] Tryz.f106) 0).body 1).body 1017) false q26 [⟨.nrm,q26⟩,⟨.ret,q56⟩] (fV n)
def Nc (n:Nat):LP Tryz.prog Tryz.f106.ntmps:=dn (pu n) [altL (Jj n) (EQ n) rfl] 1 (sb (sb (acM [] [3,17,20,23,30] Tryz.f106) 0).body 1) false q24 [] [⟨.ret,q55⟩,⟨.exit 2,⟨[(3,.p 2 0),(4,.p 3 0),(5,.p 4 0),(6,.p 5 0),(8,.i .i64),(9,.ws 62),(10,.ws 63),(11,.fn 175 [.p 4 0]),(12,.i .i64)],q12,64,2,2,2⟩⟩] (ko n) n
def Iw (n:Nat):LP Tryz.prog Tryz.f106.ntmps:=dn (pu n) [altL (Jj n) (EQ n) rfl] 1 (sb (sb (acM [] [3,17,20,23,30] Tryz.f106) 0).body 1) false q26 [] [⟨.ret,q56⟩,⟨.exit 2,⟨[(3,.p 2 0),(4,.p 3 0),(5,.p 4 0),(6,.p 5 0),(8,.i .i64),(9,.ws 0),(10,.ws 1),(11,.fn 175 [.p 4 0]),(12,.i .i64)],q15,62,2,2,2⟩⟩] (bI n) n
def Rj (n:Nat):LP Tryz.prog Tryz.f106.ntmps:=dn (pu n) [altL (Nc n) (Iw n) rfl] 0 (sb (acM [] [3,17,20,23,30] Tryz.f106) 0) false ⟨[(3,.p 2 0),(4,.p 3 0),(5,.p 4 0),(6,.p 5 0),(8,.i .i64),(9,.ws 62),(10,.ws 63),(11,.fn 175 [.p 4 0]),(12,.i .i64),(13,.b)],q12,64,2,2,2⟩ [] [⟨.ret,q55⟩,⟨.exit 0,⟨[(6,.p 5 0)],[(5,.cells q27)],64,2,2,2⟩⟩] (kw n) n
def On (n:Nat):LP Tryz.prog Tryz.f106.ntmps:=dn (pu n) [altL (Nc n) (Iw n) rfl] 0 (sb (acM [] [3,17,20,23,30] Tryz.f106) 0) false ⟨[(3,.p 2 0),(4,.p 3 0),(5,.p 4 0),(6,.p 5 0),(8,.i .i64),(9,.ws 0),(10,.ws 1),(11,.fn 175 [.p 4 0]),(12,.i .i64),(13,.b)],q15,62,2,2,2⟩ [] [⟨.ret,q56⟩,⟨.exit 0,⟨[(6,.p 5 0)],[(5,.cells q27)],62,2,2,2⟩⟩] (cj n) n
def c106 (n:Nat):FF Tryz.prog 106 [.ag q25,.ag q27,.b] q71 2 2 [⟨.tp [.ag q27,.b],[],[],false⟩]:=funC Tryz.func106 Tryz.call106 (pu n) [Qk n,altL (Rj n) (On n) rfl] [] [3,17,20,23,30] [0,1] (gL n)
def c50 (n:Nat):PF Tryz.prog 50 q66 (.i .i64):=aK Tryz.func50 Tryz.call50 [(c41 n).e,(c98 n).e,(c106 n).e] [] [] [] (aW n)
def c197 (n:Nat):FF Tryz.prog 197 [.p 0 0] q59 0 1 [⟨.it 131 (.ag [.i .i64,.i .i64]),q36,[],true⟩,⟨.tp [.ag q19,.i .i64],q36,[],false⟩]:=funC Tryz.func197 Tryz.call197 [(c40 n).e,(c50 n).e,(c146 n).e] [] [] [] [0] (fS n)
def RB (n:Nat):List (FE Tryz.prog):=[(c84 n).e,(c143 n).e,(c85 n).e,(c146 n).e]
def QW (n:Nat):LP Tryz.prog Tryz.f152.ntmps:=dn (RB n) [] 0 (sb (acM [] [] Tryz.f152) 0) false ⟨[(0,.p 0 0),(1,.s),(4,.i .i64),(5,.s)],q36,1,1,0,1⟩ [] [⟨.exit 0,⟨[(0,.p 0 0),(4,.i .i64)],q36,1,1,0,1⟩⟩] (db n) n
def c152 (n:Nat):FF Tryz.prog 152 [.p 0 0,.s] q59 0 1 [⟨.tp [],q36,[],false⟩,⟨.it 131 (.ag [.i .i64,.i .i64]),q36,[],true⟩]:=funC Tryz.func152 Tryz.call152 (RB n) [QW n] [] [] [0] (bD n)
def c198 (n:Nat):FF Tryz.prog 198 [.ws 0] q52 1 1 [⟨.rs 21 0 0 .q (some .q),[],[],false⟩]:=funC Tryz.func198 Tryz.call198 [] [] [] [] [0] (bh n)
def c155 (n:Nat):FF Tryz.prog 155 q77 q52 1 1 [⟨.b,[],[],false⟩]:=funC Tryz.func155 Tryz.call155 [] [] [] [] [0] (mg n)
def c95 (n:Nat):PF Tryz.prog 95 q66 (.b):=aK Tryz.func95 Tryz.call95 [(c102 n).e] [] [] [] (ct n)
def c51 (n:Nat):PF Tryz.prog 51 q66 (.b):=aK Tryz.func51 Tryz.call51 [(c95 n).e] [] [] [] (kz n)
def c200 (n:Nat):PF Tryz.prog 200 [.ag q48] (.i .i64):=aK Tryz.func200 Tryz.call200 [(c50 n).e,(c51 n).e] [] [] [] (fR n)
def c53 (n:Nat):FF Tryz.prog 53 [] [] 0 0 [⟨.mp 0,[(0,.mp .u8 [(0,109),(1,111),(2,115),(3,118)])],[0],false⟩]:=funC Tryz.func53 Tryz.call53 [] [] [] [] [] (gZ n)
def c23 (n:Nat):PF Tryz.prog 23 q66 (.i .u8):=aK Tryz.func23 Tryz.call23 [(c64 n).e] [] [] [] (aR n)
def c109 (n:Nat):FF Tryz.prog 109 [.i .i64,.ws 0] q63 1 1 [⟨.ag q49,[],[],false⟩]:=funC Tryz.func109 Tryz.call109 [(c110 n).e] [] [] [] [0] (fh n)
def c113 (n:Nat):PF Tryz.prog 113 [.i .i64] (.tp [.i .i64,.i .i64]):=aK Tryz.func113 Tryz.call113 [(c54 n).e,(c55 n).e] [] [] [] (rj n)
def c127 (n:Nat):PF Tryz.prog 127 [.i .i64] (.ag [.i .i8,.i .i64]):=aK Tryz.func127 Tryz.call127 [] [] [] [] (CC n)
def c114 (n:Nat):PF Tryz.prog 114 [.i .i64,.i .i64] (.ag q49):=aK Tryz.func114 Tryz.call114 [(c127 n).e] [] [] [] (o9 n)
def c111 (n:Nat):FF Tryz.prog 111 [.i .i64,.ws 0] q63 1 1 [⟨.ag q49,[],[],false⟩]:=funC Tryz.func111 Tryz.call111 [(c112 n).e,(c113 n).e,(c114 n).e] [] [] [] [0] (fc n)
def c115 (n:Nat):FF Tryz.prog 115 [.i .i64,.ws 0] q63 1 1 [⟨.ag q49,[],[],false⟩]:=funC Tryz.func115 Tryz.call115 [(c116 n).e,(c117 n).e,(c114 n).e] [] [] [] [0] (fm n)
def c182 (n:Nat):PF Tryz.prog 182 [.ag q27] (.i .i64):=aK Tryz.func182 Tryz.call182 [(c20 n).e] [] [] [] (nV n)
def c119 (n:Nat):PF Tryz.prog 119 [.ag q27] (.tp [.i .i64,.i .i64]):=aK Tryz.func119 Tryz.call119 [(c182 n).e,(c116 n).e] [] [] [] (pg n)
def c118 (n:Nat):FF Tryz.prog 118 [.i .i64,.ws 0] q63 1 1 [⟨.ag q49,[],[],false⟩]:=funC Tryz.func118 Tryz.call118 [(c119 n).e,(c114 n).e] [] [] [] [0] (fi n)
def c17 (n:Nat):PF Tryz.prog 17 q66 (.tp [.ag q49,.i .i64]):=aK Tryz.func17 Tryz.call17 [(c50 n).e,(c51 n).e,(c16 n).e,(c52 n),(c53 n).e,(c23 n).e,(c109 n).e,(c111 n).e,(c115 n).e,(c118 n).e] [] [] [] (cS n)
def c184 (n:Nat):PF Tryz.prog 184 [.i .i8] (.b):=aK Tryz.func184 Tryz.call184 [] [] [] [] (mh n)
def c125 (n:Nat):PF Tryz.prog 125 [.i .i8,.i .i8] (.i .i64):=aK Tryz.func125 Tryz.call125 [(c184 n).e] [] [] [] (kH n)
def c185 (n:Nat):PF Tryz.prog 185 [.i .i64] (.b):=aK Tryz.func185 Tryz.call185 [] [] [] [] (jl n)
def c126 (n:Nat):PF Tryz.prog 126 [.i .i64,.i .i64] (.i .i64):=aK Tryz.func126 Tryz.call126 [(c185 n).e] [] [] [] (ii n)
def QT (n:Nat):LP Tryz.prog Tryz.f124.ntmps:=dn [] [] 0 (sb (acM [] [] Tryz.f124) 0) false ⟨[(3,.i .i64),(6,.ws 0),(7,.i .i64),(8,.i .i64)],q58,1,1,1,1⟩ [] [⟨.ret,⟨[(2,.i .i64)],[],1,1,1,1⟩⟩,⟨.exit 0,⟨[(3,.i .i64)],[],1,1,1,1⟩⟩] (qM n) n
def c124 (n:Nat):FF Tryz.prog 124 [.ws 0] q63 1 1 [⟨.i .i64,[],[],false⟩]:=funC Tryz.func124 Tryz.call124 [] [QT n] [] [] [0] (mU n)
def c62 (n:Nat):PF Tryz.prog 62 [.ag [.i .i8,.i .i64],.ag [.i .i8,.i .i64]] (.i .i64):=aK Tryz.func62 Tryz.call62 [(c125 n).e,(c126 n).e,(c124 n).e] [] [] [] (iZ n)
def c156 (n:Nat):PF Tryz.prog 156 [.ag q48,.ag q48] (.i .i64):=aK Tryz.func156 Tryz.call156 [(c200 n).e,(c17 n).e,(c62 n).e] [] [0] [] (gn n)
def c238 (n:Nat):FF Tryz.prog 238 [.p 0 0] [.cells q20] 1 1 [⟨.b,[],[],false⟩]:=funC Tryz.func238 Tryz.call238 [] [] [] [] [0] (nW n)
def c242 (n:Nat):PF Tryz.prog 242 [.ag q23] (.b):=aK Tryz.func242 Tryz.call242 [(c95 n).e] [] [] [] (lu n)
def c243 (n:Nat):PF Tryz.prog 243 [.ag q23] (.b):=aK Tryz.func243 Tryz.call243 [(c50 n).e,(c242 n).e,(c23 n).e] [] [] [] (jV n)
def c240 (n:Nat):PF Tryz.prog 240 [.ag q23,.ag q23] (.b):=aK Tryz.func240 Tryz.call240 [(c243 n).e,(c23 n).e,(c17 n).e,(c62 n).e] [] [] [] (k9 n)
def c239 (n:Nat):FF Tryz.prog 239 [.p 0 0] [.cells q20] 1 1 [⟨.b,[],[],false⟩]:=funC Tryz.func239 Tryz.call239 [(c240 n).e] [] [] [] [0] (n7 n)
def c241 (n:Nat):FF Tryz.prog 241 q69 [.cells [.i .u8],.cells q20] 2 2 [⟨.b,[],[],false⟩]:=funC Tryz.func241 Tryz.call241 [(c242 n).e] [] [] [] [0,1] (oH n)
def c201 (n:Nat):FF Tryz.prog 201 [.sl 0 0 3 (some (.k 3))] [.cells [.i .i64,.fn 238 [.p 1 0],.i .i64,.fn 239 [.p 1 0],.i .i64,.fn 241 [.p 2 0,.p 1 0]],.cells q20,.cells [.i .u8]] 3 3 [⟨.i .i64,[],[],false⟩]:=funC Tryz.func201 Tryz.call201 [(c238 n).e,(c239 n).e,(c241 n).e] [] [0] [] [0,1,2] (dA n)
def c202 (n:Nat):PF Tryz.prog 202 [.ag q20,.i .u8] (.i .i64):=aK Tryz.func202 Tryz.call202 [(c50 n).e,(c201 n).e] [] [] [] (eM n)
def c203 (n:Nat):FF Tryz.prog 203 q69 [.cells q20,.cells q39,.rows q11] 3 3 [⟨.b,[],[],false⟩]:=funC Tryz.func203 Tryz.call203 [(c202 n).e] [] [] [] [0,1,2] (ot n)
def c205 (n:Nat):PF Tryz.prog 205 [.ag q20] (.b):=aK Tryz.func205 Tryz.call205 [(c243 n).e] [] [] [] (lJ n)
def c204 (n:Nat):FF Tryz.prog 204 [.p 0 0,.p 1 0,.p 2 0] [.cells [.i .u8,.bd,.b,.s,.i .i64,.i .i64,.s,.s,.i .u8,.i .u8,.i .u8,.i .u8,.bd,.b,.s,.i .i64,.i .i64,.s,.s,.i .u8,.i .u8,.i .u8,.i .u8,.bd,.b,.s,.i .i64,.i .i64,.s,.s,.i .u8,.i .u8,.i .u8,.rs 21 3 0 .q (some .q),.b,.b],.cells [.i .i64],.cells q20,.rows q11] 4 4 [⟨.b,[],[],false⟩]:=funC Tryz.func204 Tryz.call204 [(c205 n).e] [] [] [] [0,1,2,3] (nU n)
def c206 (n:Nat):FF Tryz.prog 206 [.p 0 0,.p 1 0,.p 2 0,.p 3 0] [.cells [.i .u8,.bd,.b,.s,.i .i64,.i .i64,.s,.s,.i .u8,.i .u8,.i .u8,.i .u8,.bd,.b,.s,.i .i64,.i .i64,.s,.s,.i .u8,.i .u8,.i .u8,.i .u8,.bd,.b,.s,.i .i64,.i .i64,.s,.s,.i .u8,.i .u8,.i .u8,.rs 21 4 0 .q (some .q),.b,.b],.cells [.i .i64],.cells [.i .i64],.cells q20,.rows q11] 5 5 [⟨.b,[],[],false⟩]:=funC Tryz.func206 Tryz.call206 [(c205 n).e] [] [] [] [0,1,2,3,4] (oK n)
def c207 (n:Nat):FF Tryz.prog 207 q69 [.cells q39,.cells [.i .i64],.rows q11] 3 3 [⟨.b,[],[],false⟩]:=funC Tryz.func207 Tryz.call207 [] [] [] [] [0,1,2] (oe n)
def QS (n:Nat):FF Tryz.prog 201 [.sl 0 0 4 (some (.k 4))] [.cells q51,.cells q20,.cells [.i .u8,.bd,.b,.s,.i .i64,.i .i64,.s,.s,.i .u8,.i .u8,.i .u8,.i .u8,.bd,.b,.s,.i .i64,.i .i64,.s,.s,.i .u8,.i .u8,.i .u8,.i .u8,.bd,.b,.s,.i .i64,.i .i64,.s,.s,.i .u8,.i .u8,.i .u8,.rs 21 5 0 .q (some .q),.b,.b],.cells [.i .i64],.cells [.i .i64],.rows q11] 6 6 [⟨.i .i64,[],[],false⟩]:=funC Tryz.func201 Tryz.call201 [(c203 n).e,(c204 n).e,(c206 n).e,(c207 n).e] [] [0] [] [0,1,2,3,4,5] (kL n)
def Re (n:Nat):List (FE Tryz.prog):=[(c202 n).e,(QS n).e]
def QY (n:Nat):LP Tryz.prog Tryz.f157.ntmps:=dn (Re n) [] 0 (sb (acM [] [] Tryz.f157) 0) true ⟨[(1,.p 1 0),(4,.p 2 0),(13,.rs 21 0 0 .q (some .q)),(14,.i .i64),(15,.i .i64)],[(0,.rows q11),(1,.cells q13),(2,.cells [.i .i64])],3,1,1,1⟩ [] q68 (iI n) n
def c157 (n:Nat):FF Tryz.prog 157 q77 q52 1 1 [⟨.tp [.i .i64,.i .i64],[],[],false⟩]:=funC Tryz.func157 Tryz.call157 (Re n) [QY n] [] [] [0] (kV n)
def c89 (n:Nat):FF Tryz.prog 89 q77 q52 1 1 [⟨.tp [.i .i64,.i .i64],[],[],false⟩]:=funC Tryz.func89 Tryz.call89 [(c155 n).e,(c50 n).e,(c156 n).e,(c157 n).e] [] [] [] [0] (eQ n)
def Iu (n:Nat):List (FE Tryz.prog):=[(c77 n).e,(c162 n).e,(c84 n).e,(c85 n).e,(c146 n).e,(c197 n).e,(c148 n).e,(c152 n).e,(c198 n).e,(c89 n).e]
def RD (n:Nat):LP Tryz.prog Tryz.f149.ntmps:=sH (Iu n) [] 1003 (sb (acM [] [3,16,17] Tryz.f149) 1003) true ⟨[(0,.p 0 0),(2,.p 1 0),(3,.p 2 0),(15,.b)],[(0,.cells q21),(1,.cells q29),(2,.cells [.ik .u8 3,.bk false,.bk false,.sk [],.ik .i64 0,.ik .i64 0,.sk [],.sk [],.ik .u8 0,.ik .u8 0,.ik .u8 0,.ik .u8 0,.bk false,.bk false,.sk [],.ik .i64 0,.ik .i64 0,.sk [],.sk [],.ik .u8 0,.ik .u8 0,.ik .u8 0,.ik .u8 0,.bk false,.bk false,.sk [],.ik .i64 0,.ik .i64 0,.sk [],.sk [],.ik .u8 0,.ik .u8 0,.ik .u8 0,.ws 4,.bk false,.bk false]),(3,.rows q11),(4,.rows q11)],5,1,0,1⟩ [⟨.nrm,⟨[(0,.p 0 0),(2,.p 1 0),(3,.p 2 0)],[(0,.cells q21),(1,.cells q29),(2,.cells [.i .u8,.bk false,.bk false,.sk [],.ik .i64 0,.ik .i64 0,.sk [],.sk [],.ik .u8 0,.ik .u8 0,.ik .u8 0,.ik .u8 0,.bk false,.bk false,.sk [],.ik .i64 0,.ik .i64 0,.sk [],.sk [],.ik .u8 0,.ik .u8 0,.ik .u8 0,.ik .u8 0,.bk false,.bk false,.sk [],.ik .i64 0,.ik .i64 0,.sk [],.sk [],.ik .u8 0,.ik .u8 0,.ik .u8 0,.ws 4,.bk false,.bk false]),(3,.rows q11),(4,.rows q11)],5,1,0,1⟩⟩] (kY n)
def OC (n:Nat):LP Tryz.prog Tryz.f149.ntmps:=sH (Iu n) [] 1016 (sb (sb (acM [] [3,16,17] Tryz.f149) 0).body 1016) true ⟨q67,q16,7,1,0,1⟩ [⟨.nrm,q60⟩] (kg n)
def OE (n:Nat):LP Tryz.prog Tryz.f149.ntmps:=sH (Iu n) [] 1017 (sb (sb (acM [] [3,16,17] Tryz.f149) 0).body 1017) true q60 [⟨.pan (.it 131 (.ag [.i .i64,.i .i64])),⟨[],q36,1,1,0,1⟩⟩,⟨.nrm,⟨q67,[(0,.cells q21),(1,.cells q30),(2,.cells q31),(3,.rows [.i .i64]),(4,.cells q20),(5,.rows q11),(6,.rows q11)],7,1,0,1⟩⟩] (kj n)
def Rh (n:Nat):LP Tryz.prog Tryz.f149.ntmps:=dn (Iu n) [OC n,OE n] 0 (sb (acM [] [3,16,17] Tryz.f149) 0) true ⟨q75,[(0,.cells q21),(1,.cells [.ik .u8 0,.bk false,.bk false,.sk [],.ik .i64 0,.ik .i64 0,.sk [],.sk [],.ik .u8 0,.ik .u8 0,.ik .u8 0,.ik .u8 0,.bk false,.bk false,.sk [],.ik .i64 0,.ik .i64 0,.sk [],.sk [],.ik .u8 0,.ik .u8 0,.ik .u8 0,.ik .u8 0,.bk false,.bk false,.sk [],.ik .i64 0,.ik .i64 0,.sk [],.sk [],.ik .u8 0,.ik .u8 0,.ik .u8 0,.ws 4,.bk false,.bk false]),(2,.cells [.i .u8,.bk false,.bk false,.sk [],.ik .i64 0,.ik .i64 0,.sk [],.sk [],.ik .u8 0,.ik .u8 0,.ik .u8 0,.ik .u8 0,.bk false,.bk false,.sk [],.ik .i64 0,.ik .i64 0,.sk [],.sk [],.ik .u8 0,.ik .u8 0,.ik .u8 0,.ik .u8 0,.bk false,.bk false,.sk [],.ik .i64 0,.ik .i64 0,.sk [],.sk [],.ik .u8 0,.ik .u8 0,.ik .u8 0,.ws 5,.b,.bk false]),(3,.rows [.i .i64]),(4,.rows q11),(5,.rows q11)],6,1,0,1⟩ [.nilT 6 1000 [.i .i64]] [⟨.pan (.it 131 (.ag [.i .i64,.i .i64])),⟨[],q36,1,1,0,1⟩⟩,⟨.exit 0,⟨q75,[(0,.cells q21),(1,.cells q45),(2,.cells q46),(3,.rows [.i .i64]),(4,.rows q11),(5,.rows q11)],6,1,0,1⟩⟩] (dQ n) n
def c149 (n:Nat):FF Tryz.prog 149 [.p 0 0] q59 0 1 [⟨.it 131 (.ag [.i .i64,.i .i64]),q36,[],true⟩,⟨.ag [.i .u8,.bd,.b,.s,.i .i64,.i .i64,.s,.s,.i .u8,.i .u8,.i .u8,.i .u8,.bd,.b,.s,.i .i64,.i .i64,.s,.s,.i .u8,.i .u8,.i .u8,.i .u8,.bd,.b,.s,.i .i64,.i .i64,.s,.s,.i .u8,.i .u8,.i .u8,.rs 21 1 0 .q (some .q),.b,.b],[(0,.cells q21),(1,.rows q11)],[1],false⟩]:=funC Tryz.func149 Tryz.call149 (Iu n) [RD n,Rh n] [] [3,16,17] [0] (ln n)
def c150 (n:Nat):FF Tryz.prog 150 [.p 2 0,.i .i64] [.cells q21,.rows q11,.cells q37] 2 3 [⟨.tp [],[(2,.cells q37)],[],false⟩]:=funC Tryz.func150 Tryz.call150 [] [] [] [] [2,0,1] (eG n)
def M7 (n:Nat):FF Tryz.prog 150 [.p 2 0,.i .i64] [.cells q21,.rows q11,.cells q40] 2 3 [⟨.tp [],[(2,.cells q40)],[],false⟩]:=funC Tryz.func150 Tryz.call150 [] [] [] [] [2,0,1] (cc n)
def Il (_n:Nat):Ent:=Ns 233
theorem Gg (n:Nat):dT Tryz.prog (Il n):=Hv Tryz.call233 λs c w h1 h2 h3=>Tryz.strings_TrimRight_laid s c w h1 h2 h3
def c233 (n:Nat):FE Tryz.prog:=libF (Gg n)
def Sm (n:Nat):PF Tryz.prog 232 [.s,.sk [45]] (.b):=aK Tryz.func232 Tryz.call232 [] [] [] [] (dP n)
def c254 (n:Nat):PF Tryz.prog 254 [.s,.sk [45]] (.s):=aK Tryz.func254 Tryz.call254 [(Sm n).e] [] [] [] (eK n)
def c234 (n:Nat):PF Tryz.prog 234 [.s,.sk [45]] (.s):=aK Tryz.func234 Tryz.call234 [(c254 n).e] [] [] [] (gK n)
end
end Go.Sh
