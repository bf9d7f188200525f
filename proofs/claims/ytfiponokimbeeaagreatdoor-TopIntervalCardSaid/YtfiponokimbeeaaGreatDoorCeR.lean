/- Each function of the program computes its plain function: the certificates.
   Conditions: none. Printed by the bench tool gen.py. -/
import Derived.Test.YtfiponokimbeeaaGreatDoorAbsPat
import Derived.Test.YtfiponokimbeeaaGreatDoorHGa
import Derived.Test.YtfiponokimbeeaaGreatDoorHGb
import Derived.Test.YtfiponokimbeeaaGreatDoorHGe
set_option linter.unusedVariables false
set_option linter.unusedSimpArgs false
set_option maxRecDepth 100000
set_option maxHeartbeats 4000000
namespace Go.Sh
open Go.Abs Go.Proofs
noncomputable section
abbrev q21:List PV:=[.s,.i .i64]
abbrev q33:List PV:=[.b,.b,.s,.i .i64,.i .i64]
abbrev q29:List PV:=[.i .u8,.b,.i .u16,.i .u8,.i .u8,.i .u8,.i .u8,.i .u8,.i .u8,.i .u8]
abbrev q20:List PV:=[.b,.b,.s,.i .i64,.i .i64,.s,.s,.i .u8,.i .u8,.i .u8]
abbrev q66:List PV:=[.ag q20]
abbrev q59:List PB:=[.cells q21]
abbrev q36:List (Nat×PB):=[(0,.cells q21)]
abbrev q71:List PX:=[⟨.ret,⟨[(4,.i .i64)],[],1,1,1,1⟩⟩,⟨.exit 0,⟨[],[],1,1,1,1⟩⟩]
abbrev q69:List (Nat×PB):=[(1,.cells q21)]
abbrev q72:List PV:=[.p 0 0,.p 1 0]
abbrev q64:List PB:=[.cells [.fn 289 [.p 1 0]],.cells [.fn 1000288 [.p 3 0]],.cells q20,.cells q21]
abbrev q62:List (Nat×PB):=[(2,.cells q20),(3,.cells q21)]
abbrev q75:List (Nat×PV):=[(0,.s),(7,.s),(8,.i .i64),(9,.i .i64),(12,.i .i64)]
abbrev q26:List PV:=[.i .i64,.i .i64,.i .i64]
abbrev q49:List PV:=[.i .i8,.i .i64,.i .i8,.i .i64]
abbrev q58:List (Nat×PB):=[(0,.rows [.i .i64])]
abbrev q25:List PV:=[.b,.b,.s,.i .i64,.i .i64,.s,.s,.i .u8,.i .u8,.i .u8,.ws 0,.ws 1]
abbrev q63:List PB:=[.rows [.i .i64]]
abbrev q57:PSt:=⟨[(0,.s),(1,.i .i64),(2,.b),(8,.i .u8),(9,.i .u8),(10,.p 0 0),(11,.p 1 0),(12,.i .i64)],[(0,.ints .u8 18),(1,.ints .u8 18)],2,0,0,0⟩
abbrev q70:List PB:=[.rows [.i .i64],.rows [.i .i64]]
abbrev q54:List (Nat×PB):=[(0,.rows [.i .i64]),(1,.rows [.i .i64]),(2,.cells q25),(3,.cells q26),(4,.cells [.b]),(5,.cells [.ik .i64 0,.ik .i64 0,.ik .i64 0])]
abbrev q12:List (Nat×PB):=[(0,.rows [.i .i64]),(1,.rows [.i .i64]),(2,.cells q25),(3,.cells q26),(4,.cells [.b]),(5,.cells q26),(62,.rows [.i .i64]),(63,.rows [.i .i64])]
abbrev q15:List (Nat×PB):=[(0,.rows [.i .i64]),(1,.rows [.i .i64]),(2,.cells q25),(3,.cells q26),(4,.cells [.b]),(5,.cells q26)]
abbrev q42:PSt:=⟨[(3,.p 2 0),(4,.p 3 0),(5,.p 4 0),(6,.p 5 0),(8,.i .i64),(9,.ws 62),(10,.ws 63),(11,.fn 173 [.p 4 0]),(12,.i .i64),(15,.i .i64),(16,.b),(17,.i .i64),(53,.ws 62),(54,.i .i64),(55,.i .i64)],q12,64,2,2,2⟩
abbrev q44:PSt:=⟨[(3,.p 2 0),(4,.p 3 0),(5,.p 4 0),(6,.p 5 0),(8,.i .i64),(9,.ws 0),(10,.ws 1),(11,.fn 173 [.p 4 0]),(12,.i .i64),(15,.i .i64),(16,.b),(17,.i .i64),(53,.ws 0),(54,.i .i64),(55,.i .i64)],q15,62,2,2,2⟩
abbrev q55:PSt:=⟨[(6,.p 5 0),(7,.b)],[(5,.cells q26)],64,2,2,2⟩
abbrev q24:PSt:=⟨[(3,.p 2 0),(4,.p 3 0),(5,.p 4 0),(6,.p 5 0),(8,.i .i64),(9,.ws 62),(10,.ws 63),(11,.fn 173 [.p 4 0]),(12,.i .i64),(53,.ws 62),(54,.i .i64),(55,.i .i64)],q12,64,2,2,2⟩
abbrev q56:PSt:=⟨[(6,.p 5 0),(7,.b)],[(5,.cells q26)],62,2,2,2⟩
abbrev q27:PSt:=⟨[(3,.p 2 0),(4,.p 3 0),(5,.p 4 0),(6,.p 5 0),(8,.i .i64),(9,.ws 0),(10,.ws 1),(11,.fn 173 [.p 4 0]),(12,.i .i64),(53,.ws 0),(54,.i .i64),(55,.i .i64)],q15,62,2,2,2⟩
abbrev q11:List Lf:=[.bo,.bo,.s,.i .i64,.i .i64,.s,.s,.i .u8,.i .u8,.i .u8,.bo,.bo,.bo,.s,.i .i64,.i .i64,.s,.s,.i .u8,.i .u8,.i .u8]
abbrev q51:List PB:=[.rows q11]
abbrev q13:List PV:=[.i .u8,.bd,.b,.s,.i .i64,.i .i64,.s,.s,.i .u8,.i .u8,.i .u8,.i .u8,.bd,.b,.s,.i .i64,.i .i64,.s,.s,.i .u8,.i .u8,.i .u8,.i .u8,.bd,.b,.s,.i .i64,.i .i64,.s,.s,.i .u8,.i .u8,.i .u8,.rs 21 0 0 .q (some .q),.b,.b]
abbrev q78:List PV:=[.ag q13]
abbrev q48:List PV:=[.i .u8,.b,.b,.s,.i .i64,.i .i64,.s,.s,.i .u8,.i .u8,.i .u8]
abbrev q19:List PV:=[.bd,.b,.s,.i .i64,.i .i64,.s,.s,.i .u8,.i .u8,.i .u8,.b,.bd,.b,.s,.i .i64,.i .i64,.s,.s,.i .u8,.i .u8,.i .u8]
abbrev q23:List PV:=[.bd,.b,.s,.i .i64,.i .i64,.s,.s,.i .u8,.i .u8,.i .u8]
abbrev q39:List PV:=[.i .u8,.bd,.b,.s,.i .i64,.i .i64,.s,.s,.i .u8,.i .u8,.i .u8,.i .u8,.bd,.b,.s,.i .i64,.i .i64,.s,.s,.i .u8,.i .u8,.i .u8,.i .u8,.bd,.b,.s,.i .i64,.i .i64,.s,.s,.i .u8,.i .u8,.i .u8,.rs 21 2 0 .q (some .q),.b,.b]
abbrev q52:List PV:=[.i .i64,.fn 218 [.p 1 0,.p 2 0],.i .i64,.fn 219 [.p 2 0,.p 3 0,.p 1 0],.i .i64,.fn 221 [.p 2 0,.p 3 0,.p 4 0,.p 1 0],.i .i64,.fn 222 [.p 2 0,.p 4 0]]
abbrev q68:List PX:=[⟨.ret,⟨[(2,.i .i64),(3,.i .i64)],[],1,1,1,1⟩⟩,⟨.exit 0,⟨[],[],1,1,1,1⟩⟩]
abbrev q30:List PV:=[.ik .u8 0,.bk false,.bk false,.sk [],.ik .i64 0,.ik .i64 0,.sk [],.sk [],.ik .u8 0,.ik .u8 0,.ik .u8 0,.ik .u8 0,.bk false,.bk false,.sk [],.ik .i64 0,.ik .i64 0,.sk [],.sk [],.ik .u8 0,.ik .u8 0,.ik .u8 0,.ik .u8 0,.bk false,.bk false,.sk [],.ik .i64 0,.ik .i64 0,.sk [],.sk [],.ik .u8 0,.ik .u8 0,.ik .u8 0,.ws 3,.bk false,.bk false]
abbrev q67:List (Nat×PV):=[(0,.p 0 0),(2,.p 1 0),(3,.p 2 0),(5,.s),(6,.ws 3),(7,.p 4 0),(9,.i .i64)]
abbrev q31:List PV:=[.ik .u8 0,.bk false,.bk false,.sk [],.ik .i64 0,.ik .i64 0,.sk [],.sk [],.ik .u8 0,.ik .u8 0,.ik .u8 0,.ik .u8 0,.bk false,.bk false,.sk [],.ik .i64 0,.ik .i64 0,.sk [],.sk [],.ik .u8 0,.ik .u8 0,.ik .u8 0,.ik .u8 0,.bk false,.bk false,.sk [],.ik .i64 0,.ik .i64 0,.sk [],.sk [],.ik .u8 0,.ik .u8 0,.ik .u8 0,.ws 5,.bk false,.bk false]
abbrev q32:List PV:=[.i .u8,.bk false,.bk false,.sk [],.ik .i64 0,.ik .i64 0,.sk [],.sk [],.ik .u8 0,.ik .u8 0,.ik .u8 0,.ik .u8 0,.bk false,.bk false,.sk [],.ik .i64 0,.ik .i64 0,.sk [],.sk [],.ik .u8 0,.ik .u8 0,.ik .u8 0,.ik .u8 0,.bk false,.bk false,.sk [],.ik .i64 0,.ik .i64 0,.sk [],.sk [],.ik .u8 0,.ik .u8 0,.ik .u8 0,.ws 6,.b,.bk false]
abbrev q16:List (Nat×PB):=[(0,.cells q21),(1,.cells q31),(2,.cells q32),(3,.rows [.i .i64]),(4,.cells [.bd,.b,.s,.i .i64,.i .i64,.s,.s,.i .u8,.i .u8,.i .u8,.bk false,.bk false,.bk false,.sk [],.ik .i64 0,.ik .i64 0,.sk [],.sk [],.ik .u8 0,.ik .u8 0,.ik .u8 0]),(5,.rows q11),(6,.rows q11)]
abbrev q60:PSt:=⟨[(0,.p 0 0),(2,.p 1 0),(3,.p 2 0),(5,.s),(6,.ws 3),(7,.p 4 0),(9,.i .i64),(49,.b)],q16,7,1,0,1⟩
abbrev q76:List (Nat×PV):=[(0,.p 0 0),(2,.p 1 0),(3,.p 2 0),(5,.s),(6,.ws 3)]
abbrev q45:List PV:=[.i .u8,.bd,.b,.s,.i .i64,.i .i64,.s,.s,.i .u8,.i .u8,.i .u8,.i .u8,.bd,.b,.s,.i .i64,.i .i64,.s,.s,.i .u8,.i .u8,.i .u8,.i .u8,.bd,.b,.s,.i .i64,.i .i64,.s,.s,.i .u8,.i .u8,.i .u8,.ws 4,.b,.b]
abbrev q46:List PV:=[.i .u8,.bd,.b,.s,.i .i64,.i .i64,.s,.s,.i .u8,.i .u8,.i .u8,.i .u8,.bd,.b,.s,.i .i64,.i .i64,.s,.s,.i .u8,.i .u8,.i .u8,.i .u8,.bd,.b,.s,.i .i64,.i .i64,.s,.s,.i .u8,.i .u8,.i .u8,.ws 5,.b,.b]
abbrev q37:List PV:=[.p 0 0,.i .u8,.bd,.b,.s,.i .i64,.i .i64,.s,.s,.i .u8,.i .u8,.i .u8,.i .u8,.bd,.b,.s,.i .i64,.i .i64,.s,.s,.i .u8,.i .u8,.i .u8,.i .u8,.bd,.b,.s,.i .i64,.i .i64,.s,.s,.i .u8,.i .u8,.i .u8,.rs 21 1 0 .q (some .q),.b,.b,.i .i64]
abbrev q40:List PV:=[.p 0 0,.i .u8,.bd,.b,.s,.i .i64,.i .i64,.s,.s,.i .u8,.i .u8,.i .u8,.i .u8,.bd,.b,.s,.i .i64,.i .i64,.s,.s,.i .u8,.i .u8,.i .u8,.i .u8,.bd,.b,.s,.i .i64,.i .i64,.s,.s,.i .u8,.i .u8,.i .u8,.ws 1,.b,.b,.i .i64]
def c145 (n:Nat):PF Tryz.prog 145 [.i .u16] (.s):=aM Tryz.func145 Tryz.call145 [] [] [] [] (jI n)
def SY (n:Nat):LP Tryz.prog Tryz.f207.ntmps:=dG [] [] 0 (sb (acM [] [] Tryz.f207) 0) false ⟨[(0,.s),(1,.i .u8),(2,.i .u8),(7,.i .i64),(8,.i .i64)],[],0,0,0,0⟩ [] [⟨.exit 0,⟨[(7,.i .i64)],[],0,0,0,0⟩⟩] (fV n) n
def c207 (n:Nat):PF Tryz.prog 207 [.s,.i .u8,.i .u8] (.i .i64):=aM Tryz.func207 Tryz.call207 [] [SY n] [] [] (gL n)
def Sv (n:Nat):LP Tryz.prog Tryz.f148.ntmps:=dG [] [] 0 (sb (acM [] [] Tryz.f148) 0) false ⟨[(0,.s),(1,.i .i64),(6,.i .i64),(7,.i .i64)],[],0,0,0,0⟩ [] [⟨.ret,⟨[(4,.i .i64),(5,.i .i64)],[],0,0,0,0⟩⟩,⟨.exit 0,⟨[(6,.i .i64)],[],0,0,0,0⟩⟩] (ej n) n
def c148 (n:Nat):PF Tryz.prog 148 q21 (.tp [.i .i64,.i .i64]):=aM Tryz.func148 Tryz.call148 [] [Sv n] [] [] (dY n)
def c146 (n:Nat):PF Tryz.prog 146 [.ag q33] (.i .i64):=aM Tryz.func146 Tryz.call146 [(c207 n).e,(c148 n).e] [] [] [] (cH n)
def c75E (n:Nat):List (FE Tryz.prog):=[(c145 n).e,(c146 n).e]
def UM (n:Nat):LP Tryz.prog Tryz.f75.ntmps:=dG (c75E n) [] 0 (sb (acM [] [] Tryz.f75) 0) false ⟨[(2,.p 1 0),(3,.p 50 0),(4,.i .i64),(5,.i .i64),(6,.s),(7,.i .i64)],[(1,.cells q33),(50,.cells q33)],162,0,0,0⟩ [] [⟨.exit 1,⟨[(2,.p 1 0),(3,.p 50 0),(6,.s)],[(1,.cells q33),(50,.cells q33)],162,0,0,0⟩⟩] (fp n) n
def c75 (n:Nat):PF Tryz.prog 75 [.ag [.i .u8,.b,.i .u16,.i .u8,.i .u8]] (.ag q33):=aM Tryz.func75 Tryz.call75 (c75E n) [UM n] [] [] (jJ n)
def c147 (n:Nat):PF Tryz.prog 147 [.i .i64] (.s):=aM Tryz.func147 Tryz.call147 [] [] [] [] (aU n)
def c76 (n:Nat):PF Tryz.prog 76 [.ag q29] (.s):=aM Tryz.func76 Tryz.call76 [(c147 n).e] [] [] [] (fm n)
def c77E (n:Nat):List (FE Tryz.prog):=[(c147 n).e]
def UE (n:Nat):LP Tryz.prog Tryz.f77.ntmps:=dG (c77E n) [] 0 (sb (acM [] [] Tryz.f77) 0) false ⟨[(1,.p 0 0),(3,.i .i64)],[(0,.cells q20)],1,0,0,0⟩ [] [⟨.ret,⟨[(2,.i .i64)],[],1,0,0,0⟩⟩,⟨.exit 0,⟨[],[],1,0,0,0⟩⟩] (bD n) n
def c77 (n:Nat):PF Tryz.prog 77 q66 (.i .i64):=aM Tryz.func77 Tryz.call77 (c77E n) [UE n] [] [] (cV n)
def c78 (n:Nat):PF Tryz.prog 78 [.ag q29,.s] (.s):=aM Tryz.func78 Tryz.call78 [(c147 n).e] [] [] [] (gI n)
def c38 (n:Nat):PF Tryz.prog 38 q66 (.i .i64):=aM Tryz.func38 Tryz.call38 [] [] [] [] (ax n)
def c30 (n:Nat):PF Tryz.prog 30 [.ag q29] (.ag q20):=aM Tryz.func30 Tryz.call30 [(c75 n).e,(c76 n).e,(c77 n).e,(c78 n).e,(c38 n).e] [] [0] [] (aO n)
def c21 (n:Nat):PF Tryz.prog 21 [.ag q29] (.ag q20):=aM Tryz.func21 Tryz.call21 [(c30 n).e] [] [] [] (dl n)
def c190 (n:Nat):FF Tryz.prog 190 [.p 0 0] q59 1 1 [⟨.s,[],[],false⟩]:=funC Tryz.func190 Tryz.call190 [] [] [] [] [0] (bX n)
def c128 (n:Nat):FF Tryz.prog 128 [.p 0 0] q59 1 1 [⟨.tp [.i .u8,.b],[],[],false⟩]:=funC Tryz.func128 Tryz.call128 [(c190 n).e] [] [] [] [0] (aY n)
def c194 (n:Nat):FF Tryz.prog 194 [.p 0 0] q59 1 1 [⟨.i .i64,[],[],false⟩]:=funC Tryz.func194 Tryz.call194 [] [] [] [] [0] (bv n)
def c193 (n:Nat):FF Tryz.prog 193 [.p 0 0,.i .i64,.i .i64] q59 1 1 [⟨.it 197 (.ag [.i .i64,.i .i64]),[],[],true⟩]:=funC Tryz.func193 Tryz.call193 [] [] [] [] [0] (aH n)
def c304 (_n:Nat):FE Tryz.prog:=libF (HJ Tryz.func304 (by kernel_rfl) (by kernel_rfl) (by kernel_rfl) (by kernel_rfl))
def c270 (n:Nat):PF Tryz.prog 270 [.s,.i .u8] (.i .i64):=aM Tryz.func270 Tryz.call270 [(c304 n)] [] [] [] (cE n)
def c249 (n:Nat):PF Tryz.prog 249 [.s,.i .u8] (.i .i64):=aM Tryz.func249 Tryz.call249 [(c270 n).e] [] [] [] (cS n)
def c191 (n:Nat):FF Tryz.prog 191 [.p 0 0,.s] q59 0 1 [⟨.it 197 (.ag [.i .i64,.i .i64]),q36,[],true⟩,⟨.i .u8,q36,[],false⟩]:=funC Tryz.func191 Tryz.call191 [(c128 n).e,(c194 n).e,(c193 n).e,(c249 n).e] [] [] [] [0] (bQ n)
def c192 (n:Nat):PF Tryz.prog 192 [.i .u8] (.tp [.s,.s]):=aM Tryz.func192 Tryz.call192 [] [] [] [] (dI n)
def c295 (n:Nat):PF Tryz.prog 295 [.s,.s] (.b):=aM Tryz.func295 Tryz.call295 [] [] [] [] (fC n)
def c251 (n:Nat):PF Tryz.prog 251 [.s,.s] (.b):=aM Tryz.func251 Tryz.call251 [(c295 n).e] [] [] [] (iy n)
def c196 (n:Nat):FF Tryz.prog 196 [.p 0 0,.s] q59 1 1 [⟨.b,[],[],false⟩]:=funC Tryz.func196 Tryz.call196 [(c190 n).e,(c251 n).e] [] [] [] [0] (eO n)
def c131 (n:Nat):FF Tryz.prog 131 [.p 0 0,.s] q59 0 1 [⟨.b,q36,[],false⟩]:=funC Tryz.func131 Tryz.call131 [(c196 n).e] [] [] [] [0] (aC n)
def c71 (n:Nat):PF Tryz.prog 71 [] (.ag [.s,.s,.s,.s]):=aM Tryz.func71 Tryz.call71 [] [] [] [] (qG n)
def Uy (n:Nat):LP Tryz.prog Tryz.f72.ntmps:=dG [] [] 0 (sb (acM [] [] Tryz.f72) 0) false ⟨[(0,.sl 0 0 4 (some (.k 4))),(1,.s),(7,.i .i64),(8,.i .i64)],[(0,.cells [.s,.s,.s,.s])],1,1,1,1⟩ [] q71 (gF n) n
def c72 (n:Nat):FF Tryz.prog 72 [.sl 0 0 4 (some (.k 4)),.s] [.cells [.s,.s,.s,.s]] 1 1 [⟨.i .i64,[],[],false⟩]:=funC Tryz.func72 Tryz.call72 [] [Uy n] [] [] [0] (iz n)
def c26 (n:Nat):PF Tryz.prog 26 [.i .u8] (.tp [.i .u8,.b]):=aM Tryz.func26 Tryz.call26 [(c71 n).e,(c72 n).e] [] [] [] (kG n)
def c287 (n:Nat):FF Tryz.prog 287 [.p 0 0] [.cells [.p 1 0],.cells q21] 1 2 [⟨.it 197 (.ag [.i .i64,.i .i64]),q69,[],true⟩,⟨.i .u8,q69,[],false⟩]:=funC Tryz.func287 Tryz.call287 [(c128 n).e,(c26 n).e,(c191 n).e] [] [] [] [0,1] (ca n)
def TW (n:Nat):List (FE Tryz.prog):=[(c194 n).e,(c128 n).e,(c249 n).e,(c193 n).e]
def RX (n:Nat):LP Tryz.prog Tryz.f288.ntmps:=dG (TW n) [] 0 (sb (acM [] [] Tryz.f288) 0) false ⟨[(0,.p 0 0),(1,.s),(2,.i .i64),(3,.i .i64),(9,.i .i64),(10,.i .u8),(11,.b)],q36,1,1,0,1⟩ [] [⟨.exit 0,⟨[(0,.p 0 0),(2,.i .i64),(9,.i .i64)],q36,1,1,0,1⟩⟩] (cD n) n
def c288 (n:Nat):FF Tryz.prog 288 [.p 0 0,.s,.i .i64,.i .i64] q59 0 1 [⟨.it 197 (.ag [.i .i64,.i .i64]),q36,[],true⟩,⟨.s,q36,[],false⟩]:=funC Tryz.func288 Tryz.call288 (TW n) [RX n] [] [] [0] (bM n)
noncomputable def Lo (_n:Nat):Ent:=Qv 63 240
theorem Jn (n:Nat):ep Tryz.prog (Lo n):=NG Tryz.call63 (λs n hl h w=>(Tryz.strconv_Atoi s n hl h w).mono λe w' ⟨h1,t,h2⟩=>⟨h1,h2▸oC _ _ _⟩) (λs hl h w hg=>Nn s hl h w hg)
def c63 (n:Nat):FE Tryz.prog:=libF (Jn n)
def c314 (n:Nat):FF Tryz.prog 314 [.s,.p 0 0] [.cells [.p 1 0],.cells q21] 1 2 [⟨.i .i64,q69,[],false⟩,⟨.it 197 (.ag [.i .i64,.i .i64]),q69,[],true⟩]:=funC Tryz.func314 Tryz.call314 [(c131 n).e,(c191 n).e,(c288 n).e,(c63 n)] [] [] [] [0,1] (cM n)
def c291 (n:Nat):FF Tryz.prog 291 [.p 0 0] q59 0 1 [⟨.it 197 (.ag [.i .i64,.i .i64]),q36,[],true⟩,⟨.ag q33,q36,[],false⟩]:=funC Tryz.func291 Tryz.call291 [(c131 n).e,(c191 n).e,(c288 n).e,(c314 n).e] [] [] [] [0] (kv n)
def c290 (n:Nat):FF Tryz.prog 290 q72 [.cells [.p 2 0],.cells q20,.cells q21] 1 3 [⟨.it 197 (.ag [.i .i64,.i .i64]),[(1,.cells q20),(2,.cells q21)],[],true⟩,⟨.tp [],[(1,.cells q20),(2,.cells q21)],[],false⟩]:=funC Tryz.func290 Tryz.call290 [(c291 n).e] [] [] [] [0,1,2] (i6 n)
def c108 (n:Nat):PF Tryz.prog 108 [.i .u8] (.i .i64):=aM Tryz.func108 Tryz.call108 [] [] [] [] (gA n)
def TX (n:Nat):List (FE Tryz.prog):=[(c108 n).e]
def S3 (n:Nat):LP Tryz.prog Tryz.f100.ntmps:=dG (TX n) [] 0 (sb (acM [] [] Tryz.f100) 0) false ⟨[(1,.i .i64),(13,.ai .u8 3),(14,.i .i64)],[],1,0,0,0⟩ [] [⟨.ret,⟨[(4,.i .i64)],[],1,0,0,0⟩⟩,⟨.exit 0,⟨[],[],1,0,0,0⟩⟩] (ge n) n
def c100 (n:Nat):PF Tryz.prog 100 [.ai .u8 3,.i .i64] (.i .i64):=aM Tryz.func100 Tryz.call100 (TX n) [S3 n] [] [] (cZ n)
def c315 (n:Nat):FF Tryz.prog 315 [.i .i64,.p 2 0,.p 0 0,.p 1 0] [.ints .u8 3,.ints .u8 3,.cells [.i .u8]] 2 3 [⟨.i .u8,[(2,.cells [.i .u8])],[],false⟩]:=funC Tryz.func315 Tryz.call315 [] [] [] [] [2,0,1] (qz n)
def R1 (n:Nat):List (FE Tryz.prog):=[(c100 n).e,(c315 n).e]
def SX (n:Nat):LP Tryz.prog Tryz.f294.ntmps:=dG (R1 n) [] 1 (sb (acM [0] [] Tryz.f294) 1) false ⟨[(6,.p 2 0),(12,.fn 315 [.p 5 0,.p 1 0,.p 0 0]),(13,.p 6 0),(14,.i .i64)],[(0,.ints .u8 3),(1,.ints .u8 3),(2,.ints .u8 3),(5,.cells [.i .u8]),(6,.ints .u8 3)],7,0,0,0⟩ [] [⟨.exit 2,⟨[(6,.p 2 0),(13,.p 6 0)],[(2,.ints .u8 3),(6,.ints .u8 3)],7,0,0,0⟩⟩] (pu n) n
def c294 (n:Nat):PF Tryz.prog 294 [.ai .u8 3,.ai .u8 3,.i .i64] (.tp [.ai .u8 3,.i .i64]):=aM Tryz.func294 Tryz.call294 (R1 n) [SX n] [0] [] (dO n)
def c289 (n:Nat):FF Tryz.prog 289 [.p 0 0] [.cells [.fn 1000288 [.p 1 0]],.cells q21] 1 2 [⟨.it 197 (.ag [.i .i64,.i .i64]),q69,[],true⟩,⟨.s,q69,[],false⟩]:=funC Tryz.func289 Tryz.call289 [(c288 n).e] [] [] [] [0,1] (gJ n)
def c292 (n:Nat):FF Tryz.prog 292 [.p 0 0,.p 2 0] q64 2 4 [⟨.it 197 (.ag [.i .i64,.i .i64]),q62,[],true⟩,⟨.tp [],q62,[],false⟩]:=funC Tryz.func292 Tryz.call292 [(c289 n).e] [] [] [] [0,2,1,3] (iZ n)
def c293 (n:Nat):FF Tryz.prog 293 [.p 0 0,.p 2 0] q64 2 4 [⟨.it 197 (.ag [.i .i64,.i .i64]),q62,[],true⟩,⟨.tp [],q62,[],false⟩]:=funC Tryz.func293 Tryz.call293 [(c289 n).e] [] [] [] [0,2,1,3] (ja n)
def c250 (n:Nat):FF Tryz.prog 250 [.p 0 0] q59 0 1 [⟨.it 197 (.ag [.i .i64,.i .i64]),q36,[],true⟩,⟨.tp [.ag q20,.ai .i64 3],q36,[],false⟩]:=funC Tryz.func250 Tryz.call250 [(c287 n).e,(c194 n).e,(c290 n).e,(c294 n).e,(c131 n).e,(c292 n).e,(c293 n).e] [] [0] [] [0] (iS n)
def c96 (n:Nat):PF Tryz.prog 96 [.i .i64] (.i .i64):=aM Tryz.func96 Tryz.call96 [] [] [] [] (cY n)
theorem pure_seasons_Check (n:Nat):∀a r,cY n a=some r->jD Tryz.prog 96 (argP [.i .i64] a) (encP (.i .i64) r):=λa r h=>(c96 n).ok a r h
def c51 (n:Nat):PF Tryz.prog 51 q66 (.tp [.i .i64,.b]):=aM Tryz.func51 Tryz.call51 [(c63 n),(c96 n).e] [] [] [] (bg n)
def c306 (n:Nat):PF Tryz.prog 306 [.i .i32] (.b):=aM Tryz.func306 Tryz.call306 [] [] [] [] (dp n)
def Lc (n:Nat):List (FE Tryz.prog):=[(c249 n).e,(c306 n).e]
def Ss (n:Nat):LP Tryz.prog Tryz.f275.ntmps:=dG (Lc n) [] 0 (sb (acM [] [] Tryz.f275) 0) false ⟨[(175,.p 0 0)],[(0,.iter)],1,0,0,0⟩ [] [⟨.ret,⟨[(4,.i .i64)],[],1,0,0,0⟩⟩,⟨.exit 9,⟨[],[],1,0,0,0⟩⟩] (dh n) n
def Tz (n:Nat):LP Tryz.prog Tryz.f275.ntmps:=dG (Lc n) [] 2 (sb (sb (acM [] [] Tryz.f275) 1).body 2) false ⟨q75,[],128,0,0,0⟩ [] [⟨.exit 3,⟨[(8,.i .i64),(9,.i .i64)],[],128,0,0,0⟩⟩] (lc n) n
def QK (n:Nat):LP Tryz.prog Tryz.f275.ntmps:=dG (Lc n) [] 2 (sb (sb (acM [] [] Tryz.f275) 1).body 2) false ⟨q75,[],56,0,0,0⟩ [] [⟨.exit 3,⟨[(8,.i .i64),(9,.i .i64)],[],56,0,0,0⟩⟩] (kK n) n
def Tt (n:Nat):LP Tryz.prog Tryz.f275.ntmps:=dG (Lc n) [altL (Tz n) (QK n) rfl] 1 (sb (acM [] [] Tryz.f275) 1) false ⟨[(0,.s),(7,.s),(8,.i .i64),(9,.i .i64)],[],0,0,0,0⟩ [] [⟨.ret,⟨[(4,.i .i64)],[],0,0,0,0⟩⟩,⟨.exit 1,⟨[],[],0,0,0,0⟩⟩] (dk n) n
def c275 (n:Nat):PF Tryz.prog 275 [.s,.i .i32] (.i .i64):=aM Tryz.func275 Tryz.call275 (Lc n) [Ss n,Tt n,noL 3 (sb (acM [] [] Tryz.f275) 3)] [] [] (dw n)
def c226 (n:Nat):PF Tryz.prog 226 [.s,.i .i32] (.b):=aM Tryz.func226 Tryz.call226 [(c275 n).e] [] [] [] (dj n)
def c225 (n:Nat):FF Tryz.prog 225 [.i .i32,.p 0 0] [.cells [.s]] 1 1 [⟨.b,[],[],false⟩]:=funC Tryz.func225 Tryz.call225 [(c226 n).e] [] [] [] [0] (i7 n)
def Ru (n:Nat):List (FE Tryz.prog):=[(c225 n).e]
def Si (n:Nat):LP Tryz.prog Tryz.f274.ntmps:=dG (Ru n) [] 0 (sb (acM [] [] Tryz.f274) 0) false ⟨[(1,.fn 225 [.p 0 0]),(2,.b),(10,.p 1 0)],[(0,.cells [.s]),(1,.iter)],2,1,1,1⟩ [] [⟨.ret,⟨[(6,.i .i64)],[],2,1,1,1⟩⟩,⟨.exit 0,⟨[],[],2,1,1,1⟩⟩] (ck n) n
def c274 (n:Nat):FF Tryz.prog 274 [.s,.fn 225 [.p 0 0],.b] [.cells [.s]] 1 1 [⟨.i .i64,[],[],false⟩]:=funC Tryz.func274 Tryz.call274 (Ru n) [Si n] [] [] [0] (kg n)
def c224 (n:Nat):FF Tryz.prog 224 [.s,.fn 225 [.p 0 0]] [.cells [.s]] 1 1 [⟨.i .i64,[],[],false⟩]:=funC Tryz.func224 Tryz.call224 [(c274 n).e] [] [] [] [0] (jX n)
def c164 (n:Nat):PF Tryz.prog 164 [.s,.s] (.b):=aM Tryz.func164 Tryz.call164 [(c224 n).e] [] [] [] (fM n)
def R9 (n:Nat):LP Tryz.prog Tryz.f228.ntmps:=dG [] [] 0 (sb (acM [] [] Tryz.f228) 0) false ⟨[(0,.s),(1,.i .u8)],[],0,0,0,0⟩ [] [⟨.exit 0,⟨[(0,.s)],[],0,0,0,0⟩⟩] (cT n) n
def c228 (n:Nat):PF Tryz.prog 228 [.s,.i .u8] (.s):=aM Tryz.func228 Tryz.call228 [] [R9 n] [] [] (ft n)
def Q8 (n:Nat):LP Tryz.prog Tryz.f227.ntmps:=dG [] [] 0 (sb (acM [] [] Tryz.f227) 0) false ⟨[(0,.s),(1,.i .u8)],[],0,0,0,0⟩ [] [⟨.exit 0,⟨[(0,.s)],[],0,0,0,0⟩⟩] (eG n) n
def c227 (n:Nat):PF Tryz.prog 227 [.s,.i .u8] (.s):=aM Tryz.func227 Tryz.call227 [] [Q8 n] [] [] (fP n)
def c165 (n:Nat):PF Tryz.prog 165 [.s,.sk [48]] (.s):=aM Tryz.func165 Tryz.call165 [(c228 n).e,(c227 n).e] [] [] [] (mu n)
def c223 (n:Nat):PF Tryz.prog 223 [.s,.sk [88]] (.i .i64):=aM Tryz.func223 Tryz.call223 [(c270 n).e] [noL 0 (sb (acM [] [] Tryz.f223) 0)] [] [] (ib n)
def c163 (n:Nat):PF Tryz.prog 163 [.s,.sk [88]] (.i .i64):=aM Tryz.func163 Tryz.call163 [(c223 n).e] [] [] [] (lH n)
def c97 (n:Nat):PF Tryz.prog 97 [.s,.sk [88]] (.b):=aM Tryz.func97 Tryz.call97 [(c163 n).e] [] [] [] (gG n)
def c112 (n:Nat):PF Tryz.prog 112 [.ag q33] (.b):=aM Tryz.func112 Tryz.call112 [(c97 n).e] [] [] [] (cb n)
noncomputable def JB (_n:Nat):Ent:=IK 174
theorem GI (n:Nat):ep Tryz.prog (JB n):=Kq Tryz.call174 λs h v hv w=>(Tryz.strconv_ParseInt_10_at64_ok s h v hv w).mono λe w' ⟨h1,h2⟩=>⟨h1,h2.elim (λh=>h▸RowKit.Below.refl _ _) (λ⟨t,h⟩=>h▸oC _ _ _)⟩
def c174 (n:Nat):FE Tryz.prog:=libF (GI n)
def TJ (n:Nat):LP Tryz.prog Tryz.f175.ntmps:=dG [] [] 0 (sb (acM [] [] Tryz.f175) 0) false ⟨[(4,.i .i64),(9,.i .i64),(10,.i .i64)],[],0,0,0,0⟩ [] [⟨.exit 0,⟨[(4,.i .i64)],[],0,0,0,0⟩⟩] (jx n) n
def c175 (n:Nat):PF Tryz.prog 175 [.i .i64] (.tp [.i .i64,.i .i64]):=aM Tryz.func175 Tryz.call175 [] [TJ n] [] [] (mT n)
def c239 (n:Nat):PF Tryz.prog 239 [.i .i64] (.i .u64):=aM Tryz.func239 Tryz.call239 [] [] [] [] (rP n)
def c238 (n:Nat):PF Tryz.prog 238 [.i .u64,.i .u64] (.tp [.i .u64,.i .u64]):=aM Tryz.func238 Tryz.call238 [] [] [] [] (jt n)
def c240 (n:Nat):PF Tryz.prog 240 [.i .u64,.b] (.tp [.i .i64,.i .i64]):=aM Tryz.func240 Tryz.call240 [] [] [] [] (qT n)
def c176 (n:Nat):PF Tryz.prog 176 [.i .i64,.i .i64] (.tp [.i .i64,.i .i64]):=aM Tryz.func176 Tryz.call176 [(c239 n).e,(c238 n).e,(c240 n).e] [] [] [] (ub n)
def c113 (n:Nat):PF Tryz.prog 113 [.ag q33] (.tp [.i .i64,.i .i64]):=aM Tryz.func113 Tryz.call113 [(c174 n),(c175 n).e,(c176 n).e] [] [] [] (dC n)
def c166 (n:Nat):PF Tryz.prog 166 [.ag q33] (.b):=aM Tryz.func166 Tryz.call166 [(c164 n).e,(c113 n).e] [] [] [] (aP n)
def c103 (n:Nat):PF Tryz.prog 103 [.ag q33] (.i .i64):=aM Tryz.func103 Tryz.call103 [(c164 n).e,(c165 n).e,(c112 n).e,(c166 n).e] [] [] [] (bW n)
theorem pure_yearforms_Check (n:Nat):∀a r,bW n a.1 a.2.1 a.2.2.1 a.2.2.2.1 a.2.2.2.2=some r->jD Tryz.prog 103 (argP [.ag q33] a) (encP (.i .i64) r):=λa r h=>(c103 n).ok a r h
def c62 (n:Nat):PF Tryz.prog 62 [.ag q33] (.tp [.i .i64,.i .i64]):=aM Tryz.func62 Tryz.call62 [(c103 n).e,(c112 n).e,(c113 n).e] [] [] [] (dN n)
noncomputable def xP (l:List V):Option (Int):=match l with
 | [.i .i64 a0]=>some (a0)
 | _=>none
noncomputable def IC (n:Nat):Ent:=Am 182 xP (λa=>eI n a) (λr=>.tp [.i .i64 r.1,.i .i64 r.2.1,.i .i64 r.2.2])
theorem GR (n:Nat):ep Tryz.prog (IC n):=rL (arg:=λa=>[.i .i64 a]) Tryz.call182 (λl a h=>by
 unfold xP at h
 split at h
 ·cases h;rfl
 ·cases h) (λa=>rfl) (λa r h=>qX n (λx r h=>pure_seasons_Check n x r h) a r h)
def c182 (n:Nat):FE Tryz.prog:=libF (GR n)
def c184 (n:Nat):PF Tryz.prog 184 [.i .i64] (.i .i64):=aM Tryz.func184 Tryz.call184 [] [] [] [] (gX n)
def c187 (n:Nat):PF Tryz.prog 187 [.i .i64,.i .i64] (.i .i64):=aM Tryz.func187 Tryz.call187 [(c184 n).e] [] [] [] (jk n)
def c286 (n:Nat):PF Tryz.prog 286 [.i .i64,.i .i64] (.tp [.i .i64,.i .i64]):=aM Tryz.func286 Tryz.call286 [] [] [] [] (FZ n)
def c245 (n:Nat):PF Tryz.prog 245 [.i .i64,.i .i64] (.tp [.i .i64,.i .i64]):=aM Tryz.func245 Tryz.call245 [(c286 n).e] [] [] [] (kD n)
theorem pure_ints_Div (n:Nat):∀a r,kD n a.1 a.2=some r->jD Tryz.prog 245 (argP [.i .i64,.i .i64] a) (encP (.tp [.i .i64,.i .i64]) r):=λa r h=>(c245 n).ok a r h
noncomputable def yc (l:List V):Option (Int):=match l with
 | [.i .i64 a0]=>some (a0)
 | _=>none
noncomputable def Kz (n:Nat):Ent:=Am 247 yc (λa=>eJ n a) (λr=>.i .i64 r)
theorem GU (n:Nat):ep Tryz.prog (Kz n):=rL (arg:=λa=>[.i .i64 a]) Tryz.call247 (λl a h=>by
 unfold yc at h
 split at h
 ·cases h;rfl
 ·cases h) (λa=>rfl) (λa r h=>sL n (λx y r h=>pure_ints_Div n (x,y) r h) a r h)
def c247 (n:Nat):FE Tryz.prog:=libF (GU n)
def c185 (n:Nat):PF Tryz.prog 185 [.i .i64] (.i .i64):=aM Tryz.func185 Tryz.call185 [(c247 n)] [] [] [] (jW n)
def c119 (n:Nat):PF Tryz.prog 119 [.i .i64] (.tp [.i .i64,.i .i64]):=aM Tryz.func119 Tryz.call119 [(c184 n).e,(c185 n).e] [] [] [] (kh n)
def c248 (n:Nat):PF Tryz.prog 248 [.i .i64] (.tp [.b,.i .i64]):=aM Tryz.func248 Tryz.call248 [(c184 n).e,(c247 n)] [] [] [] (jl n)
theorem pure_years_Leap (n:Nat):∀a r,jl n a=some r->jD Tryz.prog 248 (argP [.i .i64] a) (encP (.tp [.b,.i .i64]) r):=λa r h=>(c248 n).ok a r h
noncomputable def xu (l:List V):Option (Int×Int):=match l with
 | [.i .i64 a0,.i .i64 a1]=>some (a0,a1)
 | _=>none
noncomputable def Jv (n:Nat):Ent:=Am 188 xu (λa=>dE n a.1 a.2) (λr=>.i .i64 r)
theorem GT (n:Nat):ep Tryz.prog (Jv n):=rL (arg:=λa=>[.i .i64 a.1,.i .i64 a.2]) Tryz.call188 (λl a h=>by
 unfold xu at h
 split at h
 ·cases h;rfl
 ·cases h) (λa=>rfl) (λa r h=>rV n (λx r h=>pure_years_Leap n x r h) a.1 a.2 r h)
def c188 (n:Nat):FE Tryz.prog:=libF (GT n)
def RJ (n:Nat):List (FE Tryz.prog):=[(c187 n).e,(c119 n).e,(c188 n)]
def SK (n:Nat):LP Tryz.prog Tryz.f123.ntmps:=dG (RJ n) [] 0 (sb (acM [] [] Tryz.f123) 0) false ⟨[(0,.i .i64),(7,.i .i64),(22,.i .i64),(23,.i .i64)],[],0,0,0,0⟩ [] [⟨.exit 0,⟨[(7,.i .i64)],[],0,0,0,0⟩⟩] (bw n) n
def c123 (n:Nat):PF Tryz.prog 123 [.i .i64,.i .i64] (.tp [.i .i64,.i .i64]):=aM Tryz.func123 Tryz.call123 (RJ n) [SK n] [] [] (eK n)
noncomputable def wY (l:List V):Option (Int×Int):=match l with
 | [.i .i64 a0,.i .i64 a1]=>some (a0,a1)
 | _=>none
noncomputable def Jb (n:Nat):Ent:=Am 244 wY (λa=>pY n a.1 a.2) (λr=>.tp [.i .i64 r.1,.i .i64 r.2])
theorem Gm (n:Nat):ep Tryz.prog (Jb n):=rL (arg:=λa=>[.i .i64 a.1,.i .i64 a.2]) Tryz.call244 (λl a h=>by
 unfold wY at h
 split at h
 ·cases h;rfl
 ·cases h) (λa=>rfl) (λa r h=>zV n a.1 a.2 r h)
def c244 (n:Nat):FE Tryz.prog:=libF (Gm n)
def c246 (n:Nat):PF Tryz.prog 246 [.i .i64,.i .i64] (.tp [.i .i64,.i .i64]):=aM Tryz.func246 Tryz.call246 [] [] [] [] (us n)
def c183 (n:Nat):PF Tryz.prog 183 q26 (.tp q26):=aM Tryz.func183 Tryz.call183 [(c187 n).e,(c244 n),(c245 n).e,(c246 n).e,(c184 n).e] [] [] [] (nj n)
def c124 (n:Nat):PF Tryz.prog 124 [.i .i64,.i .i64] (.tp [.i .i64,.i .i64]):=aM Tryz.func124 Tryz.call124 [(c123 n).e,(c188 n)] [] [] [] (fU n)
def c117 (n:Nat):PF Tryz.prog 117 [.i .i64,.i .i64] (.tp [.ag q49,.i .i64]):=aM Tryz.func117 Tryz.call117 [(c182 n),(c123 n).e,(c183 n).e,(c124 n).e] [] [] [] (gx n)
def c98 (n:Nat):PF Tryz.prog 98 q66 (.b):=aM Tryz.func98 Tryz.call98 [(c103 n).e,(c51 n).e,(c112 n).e,(c62 n).e,(c117 n).e] [] [] [] (eU n)
def Ub (n:Nat):LP Tryz.prog Tryz.f99.ntmps:=dG [] [] 0 (sb (acM [] [] Tryz.f99) 0) false ⟨[(0,.s),(1,.i .i64),(5,.i .i64)],[],0,0,0,0⟩ [] [⟨.ret,⟨[(4,.b)],[],0,0,0,0⟩⟩,⟨.exit 0,⟨[],[],0,0,0,0⟩⟩] (cQ n) n
def c99 (n:Nat):PF Tryz.prog 99 q21 (.b):=aM Tryz.func99 Tryz.call99 [] [Ub n] [] [] (cL n)
def Uw (n:Nat):LP Tryz.prog Tryz.f52.ntmps:=dG [] [] 0 (sb (acM [] [] Tryz.f52) 0) false ⟨[(3,.i .i64),(10,.ag [.s,.s]),(11,.i .i64)],[],1,0,0,0⟩ [] [⟨.exit 0,⟨[(3,.i .i64)],[],1,0,0,0⟩⟩] (bK n) n
def c52 (n:Nat):PF Tryz.prog 52 q66 (.i .i64):=aM Tryz.func52 Tryz.call52 [] [Uw n] [] [] (aT n)
def c55 (n:Nat):PF Tryz.prog 55 q66 (.i .i64):=aM Tryz.func55 Tryz.call55 [(c51 n).e,(c98 n).e,(c99 n).e,(c52 n).e,(c100 n).e] [] [] [] (gY n)
def c237 (n:Nat):PF Tryz.prog 237 q21 (.b):=aM Tryz.func237 Tryz.call237 [] [] [] [] (jH n)
def Rk (n:Nat):List (FE Tryz.prog):=[(c237 n).e]
def Re (n:Nat):LP Tryz.prog Tryz.f170.ntmps:=dG (Rk n) [] 0 (sb (acM [] [] Tryz.f170) 0) false ⟨[(0,.s),(5,.ws 0),(7,.i .i64),(8,.i .i64)],q58,1,0,0,0⟩ [.nilT 5 0 [.i .i64]] [⟨.exit 0,⟨[(5,.ws 0)],q58,1,0,0,0⟩⟩] (fg n) n
def c170 (n:Nat):FF Tryz.prog 170 q21 [] 0 0 [⟨.ws 0,q58,[0],false⟩]:=funC Tryz.func170 Tryz.call170 (Rk n) [Re n] [] [] [] (eH n)
def c110 (n:Nat):FF Tryz.prog 110 q66 [] 0 0 [⟨.ag q25,[(0,.rows [.i .i64]),(1,.rows [.i .i64])],[0,1],false⟩]:=funC Tryz.func110 Tryz.call110 [(c51 n).e,(c170 n).e] [] [] [] [] (l6 n)
def c171 (n:Nat):FF Tryz.prog 171 [.ws 0] q63 1 1 [⟨.ws 1,[(1,.rows [.i .i64])],[1],false⟩]:=funC Tryz.func171 Tryz.call171 [] [] [] [] [0] (iG n)
def Td (n:Nat):LP Tryz.prog Tryz.f172.ntmps:=dG [] [] 0 (sb (acM [] [] Tryz.f172) 0) false ⟨[(0,.ws 0),(2,.i .i64),(3,.i .i64)],q58,1,1,0,1⟩ [] [⟨.exit 0,⟨[],q58,1,1,0,1⟩⟩] (iM n) n
def c172 (n:Nat):FF Tryz.prog 172 [.ws 0] q63 0 1 [⟨.tp [],q58,[],false⟩]:=funC Tryz.func172 Tryz.call172 [] [Td n] [] [] [0] (gQ n)
def QV (n:Nat):LP Tryz.prog Tryz.f200.ntmps:=dG [] [] 0 (sb (acM [] [] Tryz.f200) 0) false ⟨[(0,.s),(9,.p 0 0)],[(0,.iter)],1,0,0,0⟩ [] [⟨.ret,⟨[(2,.i .i64)],[],1,0,0,0⟩⟩,⟨.exit 0,⟨[(0,.s)],[],1,0,0,0⟩⟩] (gO n) n
def c200 (n:Nat):PF Tryz.prog 200 [.s] (.i .i64):=aM Tryz.func200 Tryz.call200 [] [QV n] [] [] (ie n)
def Rr (n:Nat):LP Tryz.prog Tryz.f321.ntmps:=dG [] [] 0 (sb (acM [] [] Tryz.f321) 0) false ⟨[(1,.i .u8),(5,.i .i64),(9,.ws 0),(10,.i .i64),(11,.i .i64)],[(0,.rows [.i .u8])],1,0,0,0⟩ [] [⟨.exit 0,⟨[(5,.i .i64)],[],1,0,0,0⟩⟩] (fW n) n
def c321 (n:Nat):PF Tryz.prog 321 [.s,.i .u8] (.i .i64):=aM Tryz.func321 Tryz.call321 [] [Rr n] [] [] (kP n)
def c300 (n:Nat):PF Tryz.prog 300 [.s] (.tp [.i .i64,.i .i64]):=aM Tryz.func300 Tryz.call300 [(c200 n).e,(c321 n).e] [] [] [] (nH n)
def c201 (n:Nat):PF Tryz.prog 201 [.i .i64] (.i .i64):=aM Tryz.func201 Tryz.call201 [(c175 n).e] [] [] [] (lZ n)
def c301 (n:Nat):PF Tryz.prog 301 q21 (.b):=aM Tryz.func301 Tryz.call301 [(c201 n).e] [] [] [] (kM n)
def RZ (n:Nat):LP Tryz.prog Tryz.f322.ntmps:=dG [] [] 0 (sb (acM [] [] Tryz.f322) 0) false ⟨[(1,.i .i64),(4,.p 0 0),(5,.i .i64)],[(0,.ints .u8 18)],1,0,0,0⟩ [] [⟨.exit 0,⟨[(4,.p 0 0)],[(0,.ints .u8 18)],1,0,0,0⟩⟩] (gM n) n
def c322 (n:Nat):PF Tryz.prog 322 q21 (.ai .u8 18):=aM Tryz.func322 Tryz.call322 [] [RZ n] [] [] (ke n)
def c323 (n:Nat):PF Tryz.prog 323 [.s,.ai .u8 18] (.i .i64):=aM Tryz.func323 Tryz.call323 [(c321 n).e] [] [] [] (fK n)
def LZ (n:Nat):List (FE Tryz.prog):=[(c322 n).e,(c323 n).e]
def TO (n:Nat):LP Tryz.prog Tryz.f302.ntmps:=dG (LZ n) [] 0 (sb (acM [] [] Tryz.f302) 0) false q57 [] [⟨.exit 0,q57⟩] (eV n) n
def SS (n:Nat):LP Tryz.prog Tryz.f302.ntmps:=dG (LZ n) [] 1 (sb (acM [] [] Tryz.f302) 1) false ⟨[(0,.s),(2,.b),(8,.i .u8),(9,.i .u8),(10,.p 0 0),(11,.p 1 0),(12,.i .i64)],[(0,.ints .u8 18),(1,.ints .u8 18)],74,0,0,0⟩ [] [⟨.ret,⟨[(6,.i .i64),(7,.i .i64)],[],74,0,0,0⟩⟩,⟨.exit 2,⟨[(0,.s),(2,.b),(8,.i .u8),(11,.p 1 0),(12,.i .i64)],[(1,.ints .u8 18)],74,0,0,0⟩⟩] (bY n) n
def Rz (n:Nat):LP Tryz.prog Tryz.f302.ntmps:=dG (LZ n) [] 2 (sb (acM [] [] Tryz.f302) 2) false ⟨[(0,.s),(8,.i .u8),(11,.p 1 0),(12,.i .i64)],[(1,.ints .u8 18)],74,0,0,0⟩ [] [⟨.exit 5,⟨[(0,.s),(11,.p 1 0)],[(1,.ints .u8 18)],74,0,0,0⟩⟩] (bm n) n
def c302 (n:Nat):PF Tryz.prog 302 [.s,.i .i64,.b] (.tp [.i .i64,.i .i64]):=aM Tryz.func302 Tryz.call302 (LZ n) [TO n,SS n,Rz n] [] [] (cR n)
def c259 (n:Nat):PF Tryz.prog 259 q21 (.tp [.i .i64,.i .i64]):=aM Tryz.func259 Tryz.call259 [(c200 n).e,(c300 n).e,(c301 n).e,(c302 n).e] [] [] [] (pO n)
def c303 (n:Nat):PF Tryz.prog 303 [.s] (.tp [.i .i64,.i .i64]):=aM Tryz.func303 Tryz.call303 [(c200 n).e,(c321 n).e] [] [] [] (kF n)
def c260 (n:Nat):PF Tryz.prog 260 q21 (.tp [.i .i64,.i .i64]):=aM Tryz.func260 Tryz.call260 [(c200 n).e,(c301 n).e,(c303 n).e,(c302 n).e] [] [] [] (pL n)
def c203 (n:Nat):PF Tryz.prog 203 [.s,.i .i64,.b,.i .i64] (.tp [.i .i64,.b]):=aM Tryz.func203 Tryz.call203 [(c259 n).e,(c260 n).e] [] [] [] (eT n)
def c140 (n:Nat):FF Tryz.prog 140 [.ag q25,.i .i64,.b] q70 2 2 [⟨.tp [.i .i64,.b],[],[],false⟩]:=funC Tryz.func140 Tryz.call140 [(c112 n).e,(c62 n).e,(c203 n).e] [] [] [] [0,1] (aW n)
def c173 (n:Nat):FF Tryz.prog 173 [.i .i64,.i .i64,.p 0 0] [.cells [.b]] 1 1 [⟨.b,[],[],false⟩]:=funC Tryz.func173 Tryz.call173 [] [] [] [] [0] (ci n)
def c204 (n:Nat):PF Tryz.prog 204 [.i .i64,.i .i64] (.tp [.i .i64,.i .i64]):=aM Tryz.func204 Tryz.call204 [(c187 n).e,(c188 n)] [] [] [] (mS n)
def c141 (n:Nat):FF Tryz.prog 141 [.ag q25,.i .i64,.i .i64] q70 2 2 [⟨.i .i64,[],[],false⟩]:=funC Tryz.func141 Tryz.call141 [(c204 n).e] [] [] [] [0,1] (di n)
def qi (n:Nat):List (FE Tryz.prog):=[(c171 n).e,(c172 n).e,(c140 n).e,(c173 n).e,(c141 n).e]
def Rt (n:Nat):LP Tryz.prog Tryz.f111.ntmps:=tJ (qi n) [] 1003 (sb (acM [] [3,17,20,23,30] Tryz.f111) 1003) false ⟨[(3,.p 2 0),(4,.p 3 0),(5,.p 4 0),(6,.p 5 0),(8,.ik .i64 1),(9,.ws 0),(10,.ws 1),(25,.b)],q54,62,2,2,2⟩ [⟨.nrm,⟨[(3,.p 2 0),(4,.p 3 0),(5,.p 4 0),(6,.p 5 0),(8,.ik .i64 (-1)),(9,.ws 62),(10,.ws 63)],[(0,.rows [.i .i64]),(1,.rows [.i .i64]),(2,.cells q25),(3,.cells q26),(4,.cells [.b]),(5,.cells [.ik .i64 0,.ik .i64 0,.ik .i64 0]),(62,.rows [.i .i64]),(63,.rows [.i .i64])],64,2,2,2⟩⟩,⟨.nrm,⟨[(3,.p 2 0),(4,.p 3 0),(5,.p 4 0),(6,.p 5 0),(8,.ik .i64 1),(9,.ws 0),(10,.ws 1)],q54,62,2,2,2⟩⟩] (hO n)
def iO9 (n:Nat):LP Tryz.prog Tryz.f111.ntmps:=tJ (qi n) [] 1020 (sb (sb (sb (sb (acM [] [3,17,20,23,30] Tryz.f111) 0).body 1).body 1017) 1020) false ⟨[(3,.p 2 0),(4,.p 3 0),(5,.p 4 0),(6,.p 5 0),(8,.i .i64),(9,.ws 62),(10,.ws 63),(11,.fn 173 [.p 4 0]),(12,.i .i64),(15,.i .i64),(16,.b),(53,.ws 62),(54,.i .i64),(55,.i .i64)],q12,64,2,2,2⟩ [⟨.nrm,⟨[(3,.p 2 0),(4,.p 3 0),(5,.p 4 0),(6,.p 5 0),(8,.i .i64),(9,.ws 62),(10,.ws 63),(11,.fn 173 [.p 4 0]),(12,.i .i64),(15,.i .i64),(16,.b),(53,.ws 62),(54,.i .i64),(55,.i .i64),(76,.b)],q12,64,2,2,2⟩⟩] (jQ n)
def Ec (n:Nat):LP Tryz.prog Tryz.f111.ntmps:=tJ (qi n) [] 1020 (sb (sb (sb (sb (acM [] [3,17,20,23,30] Tryz.f111) 0).body 1).body 1017) 1020) false ⟨[(3,.p 2 0),(4,.p 3 0),(5,.p 4 0),(6,.p 5 0),(8,.i .i64),(9,.ws 0),(10,.ws 1),(11,.fn 173 [.p 4 0]),(12,.i .i64),(15,.i .i64),(16,.b),(53,.ws 0),(54,.i .i64),(55,.i .i64)],q15,62,2,2,2⟩ [⟨.nrm,⟨[(3,.p 2 0),(4,.p 3 0),(5,.p 4 0),(6,.p 5 0),(8,.i .i64),(9,.ws 0),(10,.ws 1),(11,.fn 173 [.p 4 0]),(12,.i .i64),(15,.i .i64),(16,.b),(53,.ws 0),(54,.i .i64),(55,.i .i64),(76,.b)],q15,62,2,2,2⟩⟩] (ei n)
def IS (n:Nat):LP Tryz.prog Tryz.f111.ntmps:=tJ (qi n) [] 1023 (sb (sb (sb (sb (acM [] [3,17,20,23,30] Tryz.f111) 0).body 1).body 1017) 1023) false q42 [⟨.nrm,q42⟩] (jT n)
def Fj (n:Nat):LP Tryz.prog Tryz.f111.ntmps:=tJ (qi n) [] 1023 (sb (sb (sb (sb (acM [] [3,17,20,23,30] Tryz.f111) 0).body 1).body 1017) 1023) false q44 [⟨.nrm,q44⟩] (ef n)
def KB (n:Nat):LP Tryz.prog Tryz.f111.ntmps:=tJ (qi n) [] 1030 (sb (sb (sb (sb (sb (acM [] [3,17,20,23,30] Tryz.f111) 0).body 1).body 1017) 2).body 1030) false ⟨[(3,.p 2 0),(4,.p 3 0),(5,.p 4 0),(6,.p 5 0),(8,.i .i64),(9,.ws 62),(10,.ws 63),(11,.fn 173 [.p 4 0]),(12,.i .i64),(15,.i .i64),(16,.b),(17,.i .i64),(19,.i .i64),(53,.ws 62),(54,.i .i64),(55,.i .i64),(94,.ws 63),(95,.i .i64),(96,.i .i64)],q12,64,2,2,2⟩ [⟨.nrm,⟨[(3,.p 2 0),(4,.p 3 0),(5,.p 4 0),(6,.p 5 0),(8,.i .i64),(9,.ws 62),(10,.ws 63),(11,.fn 173 [.p 4 0]),(12,.i .i64),(15,.i .i64),(16,.b),(17,.i .i64),(19,.i .i64),(53,.ws 62),(54,.i .i64),(55,.i .i64),(94,.ws 63),(95,.i .i64),(96,.i .i64),(119,.b)],q12,64,2,2,2⟩⟩] (jO n)
def EE (n:Nat):LP Tryz.prog Tryz.f111.ntmps:=tJ (qi n) [] 1030 (sb (sb (sb (sb (sb (acM [] [3,17,20,23,30] Tryz.f111) 0).body 1).body 1017) 2).body 1030) false ⟨[(3,.p 2 0),(4,.p 3 0),(5,.p 4 0),(6,.p 5 0),(8,.i .i64),(9,.ws 0),(10,.ws 1),(11,.fn 173 [.p 4 0]),(12,.i .i64),(15,.i .i64),(16,.b),(17,.i .i64),(19,.i .i64),(53,.ws 0),(54,.i .i64),(55,.i .i64),(94,.ws 1),(95,.i .i64),(96,.i .i64)],q15,62,2,2,2⟩ [⟨.nrm,⟨[(3,.p 2 0),(4,.p 3 0),(5,.p 4 0),(6,.p 5 0),(8,.i .i64),(9,.ws 0),(10,.ws 1),(11,.fn 173 [.p 4 0]),(12,.i .i64),(15,.i .i64),(16,.b),(17,.i .i64),(19,.i .i64),(53,.ws 0),(54,.i .i64),(55,.i .i64),(94,.ws 1),(95,.i .i64),(96,.i .i64),(119,.b)],q15,62,2,2,2⟩⟩] (gu n)
def Ou (n:Nat):LP Tryz.prog Tryz.f111.ntmps:=dG (qi n) [altL (KB n) (EE n) rfl] 2 (sb (sb (sb (sb (acM [] [3,17,20,23,30] Tryz.f111) 0).body 1).body 1017) 2) false ⟨[(3,.p 2 0),(4,.p 3 0),(5,.p 4 0),(6,.p 5 0),(8,.i .i64),(9,.ws 62),(10,.ws 63),(11,.fn 173 [.p 4 0]),(12,.i .i64),(15,.i .i64),(16,.b),(17,.i .i64),(53,.ws 62),(54,.i .i64),(55,.i .i64),(94,.ws 63),(95,.i .i64),(96,.i .i64)],q12,64,2,2,2⟩ [] [⟨.ret,q55⟩,⟨.exit 4,q24⟩] (kN n) n
def Jq (n:Nat):LP Tryz.prog Tryz.f111.ntmps:=dG (qi n) [altL (KB n) (EE n) rfl] 2 (sb (sb (sb (sb (acM [] [3,17,20,23,30] Tryz.f111) 0).body 1).body 1017) 2) false ⟨[(3,.p 2 0),(4,.p 3 0),(5,.p 4 0),(6,.p 5 0),(8,.i .i64),(9,.ws 0),(10,.ws 1),(11,.fn 173 [.p 4 0]),(12,.i .i64),(15,.i .i64),(16,.b),(17,.i .i64),(53,.ws 0),(54,.i .i64),(55,.i .i64),(94,.ws 1),(95,.i .i64),(96,.i .i64)],q15,62,2,2,2⟩ [] [⟨.ret,q56⟩,⟨.exit 4,q27⟩] (bA n) n
def Hq (n:Nat):LP Tryz.prog Tryz.f111.ntmps:=tJ (qi n) [altL (iO9 n) (Ec n) rfl,altL (IS n) (Fj n) rfl,altL (Ou n) (Jq n) rfl] 1017 (sb (sb (sb (acM [] [3,17,20,23,30] Tryz.f111) 0).body 1).body 1017) false q24 [⟨.nrm,q24⟩,⟨.ret,q55⟩] (jS n)
def EJ (n:Nat):LP Tryz.prog Tryz.f111.ntmps:=tJ (qi n) [altL (iO9 n) (Ec n) rfl,altL (IS n) (Fj n) rfl,altL (Ou n) (Jq n) rfl] 1017 (sb (sb (sb (acM [] [3,17,20,23,30] Tryz.f111) 0).body 1).body 1017) false q27 [⟨.nrm,q27⟩,⟨.ret,q56⟩] (gq n)
def NT (n:Nat):LP Tryz.prog Tryz.f111.ntmps:=dG (qi n) [altL (Hq n) (EJ n) rfl] 1 (sb (sb (acM [] [3,17,20,23,30] Tryz.f111) 0).body 1) false q24 [] [⟨.ret,q55⟩,⟨.exit 2,⟨[(3,.p 2 0),(4,.p 3 0),(5,.p 4 0),(6,.p 5 0),(8,.i .i64),(9,.ws 62),(10,.ws 63),(11,.fn 173 [.p 4 0]),(12,.i .i64)],q12,64,2,2,2⟩⟩] (kO n) n
def KQ (n:Nat):LP Tryz.prog Tryz.f111.ntmps:=dG (qi n) [altL (Hq n) (EJ n) rfl] 1 (sb (sb (acM [] [3,17,20,23,30] Tryz.f111) 0).body 1) false q27 [] [⟨.ret,q56⟩,⟨.exit 2,⟨[(3,.p 2 0),(4,.p 3 0),(5,.p 4 0),(6,.p 5 0),(8,.i .i64),(9,.ws 0),(10,.ws 1),(11,.fn 173 [.p 4 0]),(12,.i .i64)],q15,62,2,2,2⟩⟩] (bP n) n
def R7 (n:Nat):LP Tryz.prog Tryz.f111.ntmps:=dG (qi n) [altL (NT n) (KQ n) rfl] 0 (sb (acM [] [3,17,20,23,30] Tryz.f111) 0) false ⟨[(3,.p 2 0),(4,.p 3 0),(5,.p 4 0),(6,.p 5 0),(8,.i .i64),(9,.ws 62),(10,.ws 63),(11,.fn 173 [.p 4 0]),(12,.i .i64),(13,.b)],q12,64,2,2,2⟩ [] [⟨.ret,q55⟩,⟨.exit 0,⟨[(6,.p 5 0)],[(5,.cells q26)],64,2,2,2⟩⟩] (kJ n) n
def QQ (n:Nat):LP Tryz.prog Tryz.f111.ntmps:=dG (qi n) [altL (NT n) (KQ n) rfl] 0 (sb (acM [] [3,17,20,23,30] Tryz.f111) 0) false ⟨[(3,.p 2 0),(4,.p 3 0),(5,.p 4 0),(6,.p 5 0),(8,.i .i64),(9,.ws 0),(10,.ws 1),(11,.fn 173 [.p 4 0]),(12,.i .i64),(13,.b)],q15,62,2,2,2⟩ [] [⟨.ret,q56⟩,⟨.exit 0,⟨[(6,.p 5 0)],[(5,.cells q26)],62,2,2,2⟩⟩] (cA n) n
def c111 (n:Nat):FF Tryz.prog 111 [.ag q25,.ag q26,.b] q70 2 2 [⟨.tp [.ag q26,.b],[],[],false⟩]:=funC Tryz.func111 Tryz.call111 (qi n) [Rt n,altL (R7 n) (QQ n) rfl] [] [3,17,20,23,30] [0,1] (gU n)
def c60 (n:Nat):PF Tryz.prog 60 q66 (.i .i64):=aM Tryz.func60 Tryz.call60 [(c55 n).e,(c110 n).e,(c111 n).e] [] [] [] (bf n)
def c195 (n:Nat):FF Tryz.prog 195 [.p 0 0] q59 0 1 [⟨.it 197 (.ag [.i .i64,.i .i64]),q36,[],true⟩,⟨.tp [.ag q20,.i .i64],q36,[],false⟩]:=funC Tryz.func195 Tryz.call195 [(c250 n).e,(c60 n).e,(c193 n).e] [] [] [] [0] (gy n)
def TV (n:Nat):List (FE Tryz.prog):=[(c131 n).e,(c190 n).e,(c194 n).e,(c193 n).e]
def TL (n:Nat):LP Tryz.prog Tryz.f133.ntmps:=dG (TV n) [] 0 (sb (acM [] [] Tryz.f133) 0) false ⟨[(0,.p 0 0),(1,.s),(4,.i .i64),(5,.s)],q36,1,1,0,1⟩ [] [⟨.exit 0,⟨[(0,.p 0 0),(4,.i .i64)],q36,1,1,0,1⟩⟩] (dq n) n
def c133 (n:Nat):FF Tryz.prog 133 [.p 0 0,.s] q59 0 1 [⟨.tp [],q36,[],false⟩,⟨.it 197 (.ag [.i .i64,.i .i64]),q36,[],true⟩]:=funC Tryz.func133 Tryz.call133 (TV n) [TL n] [] [] [0] (bN n)
def c197 (n:Nat):FF Tryz.prog 197 [.ws 0] q51 1 1 [⟨.rs 21 0 0 .q (some .q),[],[],false⟩]:=funC Tryz.func197 Tryz.call197 [] [] [] [] [0] (bu n)
def c160 (n:Nat):FF Tryz.prog 160 q78 q51 1 1 [⟨.b,[],[],false⟩]:=funC Tryz.func160 Tryz.call160 [] [] [] [] [0] (mG n)
def c53 (n:Nat):PF Tryz.prog 53 q66 (.b):=aM Tryz.func53 Tryz.call53 [(c97 n).e] [] [] [] (cJ n)
def c61 (n:Nat):PF Tryz.prog 61 q66 (.b):=aM Tryz.func61 Tryz.call61 [(c53 n).e] [] [] [] (kI n)
def c199 (n:Nat):PF Tryz.prog 199 [.ag q48] (.i .i64):=aM Tryz.func199 Tryz.call199 [(c60 n).e,(c61 n).e] [] [] [] (ga n)
def c64 (n:Nat):FF Tryz.prog 64 [] [] 0 0 [⟨.mp 0,[(0,.mp .u8 [(0,116),(1,118),(2,122),(3,125)])],[0],false⟩]:=funC Tryz.func64 Tryz.call64 [] [] [] [] [] (hZ n)
def c65 (n:Nat):PF Tryz.prog 65 q66 (.i .u8):=aM Tryz.func65 Tryz.call65 [(c51 n).e] [] [] [] (aX n)
def c116 (n:Nat):FF Tryz.prog 116 [.i .i64,.ws 0] q63 1 1 [⟨.ag q49,[],[],false⟩]:=funC Tryz.func116 Tryz.call116 [(c117 n).e] [] [] [] [0] (fA n)
def c120 (n:Nat):PF Tryz.prog 120 [.i .i64] (.tp [.i .i64,.i .i64]):=aM Tryz.func120 Tryz.call120 [(c184 n).e,(c185 n).e] [] [] [] (rW n)
def c186 (n:Nat):PF Tryz.prog 186 [.i .i64] (.ag [.i .i8,.i .i64]):=aM Tryz.func186 Tryz.call186 [] [] [] [] (CE n)
def c121 (n:Nat):PF Tryz.prog 121 [.i .i64,.i .i64] (.ag q49):=aM Tryz.func121 Tryz.call121 [(c186 n).e] [] [] [] (pP n)
def c118 (n:Nat):FF Tryz.prog 118 [.i .i64,.ws 0] q63 1 1 [⟨.ag q49,[],[],false⟩]:=funC Tryz.func118 Tryz.call118 [(c119 n).e,(c120 n).e,(c121 n).e] [] [] [] [0] (fF n)
def c122 (n:Nat):FF Tryz.prog 122 [.i .i64,.ws 0] q63 1 1 [⟨.ag q49,[],[],false⟩]:=funC Tryz.func122 Tryz.call122 [(c123 n).e,(c124 n).e,(c121 n).e] [] [] [] [0] (fG n)
def c189 (n:Nat):PF Tryz.prog 189 [.ag q26] (.i .i64):=aM Tryz.func189 Tryz.call189 [(c204 n).e] [] [] [] (o6 n)
def c126 (n:Nat):PF Tryz.prog 126 [.ag q26] (.tp [.i .i64,.i .i64]):=aM Tryz.func126 Tryz.call126 [(c189 n).e,(c123 n).e] [] [] [] (pQ n)
def c125 (n:Nat):FF Tryz.prog 125 [.i .i64,.ws 0] q63 1 1 [⟨.ag q49,[],[],false⟩]:=funC Tryz.func125 Tryz.call125 [(c126 n).e,(c121 n).e] [] [] [] [0] (fB n)
def c23 (n:Nat):PF Tryz.prog 23 q66 (.tp [.ag q49,.i .i64]):=aM Tryz.func23 Tryz.call23 [(c60 n).e,(c61 n).e,(c62 n).e,(c63 n),(c64 n).e,(c65 n).e,(c116 n).e,(c118 n).e,(c122 n).e,(c125 n).e] [] [] [] (ct n)
def c136 (n:Nat):PF Tryz.prog 136 [.i .i8] (.b):=aM Tryz.func136 Tryz.call136 [] [] [] [] (mE n)
def c69 (n:Nat):PF Tryz.prog 69 [.i .i8,.i .i8] (.i .i64):=aM Tryz.func69 Tryz.call69 [(c136 n).e] [] [] [] (la n)
def c137 (n:Nat):PF Tryz.prog 137 [.i .i64] (.b):=aM Tryz.func137 Tryz.call137 [] [] [] [] (jF n)
def c70 (n:Nat):PF Tryz.prog 70 [.i .i64,.i .i64] (.i .i64):=aM Tryz.func70 Tryz.call70 [(c137 n).e] [] [] [] (iv n)
def UK (n:Nat):LP Tryz.prog Tryz.f68.ntmps:=dG [] [] 0 (sb (acM [] [] Tryz.f68) 0) false ⟨[(3,.i .i64),(6,.ws 0),(7,.i .i64),(8,.i .i64)],q58,1,1,1,1⟩ [] [⟨.ret,⟨[(2,.i .i64)],[],1,1,1,1⟩⟩,⟨.exit 0,⟨[(3,.i .i64)],[],1,1,1,1⟩⟩] (rF n) n
def c68 (n:Nat):FF Tryz.prog 68 [.ws 0] q63 1 1 [⟨.i .i64,[],[],false⟩]:=funC Tryz.func68 Tryz.call68 [] [UK n] [] [] [0] (nh n)
def c25 (n:Nat):PF Tryz.prog 25 [.ag [.i .i8,.i .i64],.ag [.i .i8,.i .i64]] (.i .i64):=aM Tryz.func25 Tryz.call25 [(c69 n).e,(c70 n).e,(c68 n).e] [] [] [] (f9 n)
def c161 (n:Nat):PF Tryz.prog 161 [.ag q48,.ag q48] (.i .i64):=aM Tryz.func161 Tryz.call161 [(c199 n).e,(c23 n).e,(c25 n).e] [] [0] [] (gg n)
def c264 (n:Nat):FF Tryz.prog 264 [.p 0 0] [.cells q19] 1 1 [⟨.b,[],[],false⟩]:=funC Tryz.func264 Tryz.call264 [] [] [] [] [0] (o5 n)
def c268 (n:Nat):PF Tryz.prog 268 [.ag q23] (.b):=aM Tryz.func268 Tryz.call268 [(c53 n).e] [] [] [] (mi n)
def c269 (n:Nat):PF Tryz.prog 269 [.ag q23] (.b):=aM Tryz.func269 Tryz.call269 [(c60 n).e,(c268 n).e,(c65 n).e] [] [] [] (jY n)
def c266 (n:Nat):PF Tryz.prog 266 [.ag q23,.ag q23] (.b):=aM Tryz.func266 Tryz.call266 [(c269 n).e,(c65 n).e,(c23 n).e,(c25 n).e] [] [] [] (lu n)
def c265 (n:Nat):FF Tryz.prog 265 [.p 0 0] [.cells q19] 1 1 [⟨.b,[],[],false⟩]:=funC Tryz.func265 Tryz.call265 [(c266 n).e] [] [] [] [0] (oW n)
def c267 (n:Nat):FF Tryz.prog 267 q72 [.cells [.i .u8],.cells q19] 2 2 [⟨.b,[],[],false⟩]:=funC Tryz.func267 Tryz.call267 [(c268 n).e] [] [] [] [0,1] (oZ n)
def c216 (n:Nat):FF Tryz.prog 216 [.sl 0 0 3 (some (.k 3))] [.cells [.i .i64,.fn 264 [.p 1 0],.i .i64,.fn 265 [.p 1 0],.i .i64,.fn 267 [.p 2 0,.p 1 0]],.cells q19,.cells [.i .u8]] 3 3 [⟨.i .i64,[],[],false⟩]:=funC Tryz.func216 Tryz.call216 [(c264 n).e,(c265 n).e,(c267 n).e] [] [0] [] [0,1,2] (dH n)
def c217 (n:Nat):PF Tryz.prog 217 [.ag q19,.i .u8] (.i .i64):=aM Tryz.func217 Tryz.call217 [(c60 n).e,(c216 n).e] [] [] [] (fe n)
def c218 (n:Nat):FF Tryz.prog 218 q72 [.cells q19,.cells q39,.rows q11] 3 3 [⟨.b,[],[],false⟩]:=funC Tryz.func218 Tryz.call218 [(c217 n).e] [] [] [] [0,1,2] (oJ n)
def c220 (n:Nat):PF Tryz.prog 220 [.ag q19] (.b):=aM Tryz.func220 Tryz.call220 [(c269 n).e] [] [] [] (lY n)
def c219 (n:Nat):FF Tryz.prog 219 [.p 0 0,.p 1 0,.p 2 0] [.cells [.i .u8,.bd,.b,.s,.i .i64,.i .i64,.s,.s,.i .u8,.i .u8,.i .u8,.i .u8,.bd,.b,.s,.i .i64,.i .i64,.s,.s,.i .u8,.i .u8,.i .u8,.i .u8,.bd,.b,.s,.i .i64,.i .i64,.s,.s,.i .u8,.i .u8,.i .u8,.rs 21 3 0 .q (some .q),.b,.b],.cells [.i .i64],.cells q19,.rows q11] 4 4 [⟨.b,[],[],false⟩]:=funC Tryz.func219 Tryz.call219 [(c220 n).e] [] [] [] [0,1,2,3] (oN n)
def c221 (n:Nat):FF Tryz.prog 221 [.p 0 0,.p 1 0,.p 2 0,.p 3 0] [.cells [.i .u8,.bd,.b,.s,.i .i64,.i .i64,.s,.s,.i .u8,.i .u8,.i .u8,.i .u8,.bd,.b,.s,.i .i64,.i .i64,.s,.s,.i .u8,.i .u8,.i .u8,.i .u8,.bd,.b,.s,.i .i64,.i .i64,.s,.s,.i .u8,.i .u8,.i .u8,.rs 21 4 0 .q (some .q),.b,.b],.cells [.i .i64],.cells [.i .i64],.cells q19,.rows q11] 5 5 [⟨.b,[],[],false⟩]:=funC Tryz.func221 Tryz.call221 [(c220 n).e] [] [] [] [0,1,2,3,4] (oU n)
def c222 (n:Nat):FF Tryz.prog 222 q72 [.cells q39,.cells [.i .i64],.rows q11] 3 3 [⟨.b,[],[],false⟩]:=funC Tryz.func222 Tryz.call222 [] [] [] [] [0,1,2] (pj n)
def TU (n:Nat):FF Tryz.prog 216 [.sl 0 0 4 (some (.k 4))] [.cells q52,.cells q19,.cells [.i .u8,.bd,.b,.s,.i .i64,.i .i64,.s,.s,.i .u8,.i .u8,.i .u8,.i .u8,.bd,.b,.s,.i .i64,.i .i64,.s,.s,.i .u8,.i .u8,.i .u8,.i .u8,.bd,.b,.s,.i .i64,.i .i64,.s,.s,.i .u8,.i .u8,.i .u8,.rs 21 5 0 .q (some .q),.b,.b],.cells [.i .i64],.cells [.i .i64],.rows q11] 6 6 [⟨.i .i64,[],[],false⟩]:=funC Tryz.func216 Tryz.call216 [(c218 n).e,(c219 n).e,(c221 n).e,(c222 n).e] [] [0] [] [0,1,2,3,4,5] (k7 n)
def TB (n:Nat):List (FE Tryz.prog):=[(c217 n).e,(TU n).e]
def Ti (n:Nat):LP Tryz.prog Tryz.f162.ntmps:=dG (TB n) [] 0 (sb (acM [] [] Tryz.f162) 0) true ⟨[(1,.p 1 0),(4,.p 2 0),(13,.rs 21 0 0 .q (some .q)),(14,.i .i64),(15,.i .i64)],[(0,.rows q11),(1,.cells q13),(2,.cells [.i .i64])],3,1,1,1⟩ [] q68 (iV n) n
def c162 (n:Nat):FF Tryz.prog 162 q78 q51 1 1 [⟨.tp [.i .i64,.i .i64],[],[],false⟩]:=funC Tryz.func162 Tryz.call162 (TB n) [Ti n] [] [] [0] (lp n)
def c94 (n:Nat):FF Tryz.prog 94 q78 q51 1 1 [⟨.tp [.i .i64,.i .i64],[],[],false⟩]:=funC Tryz.func94 Tryz.call94 [(c160 n).e,(c60 n).e,(c161 n).e,(c162 n).e] [] [] [] [0] (fh n)
def Ja (n:Nat):List (FE Tryz.prog):=[(c191 n).e,(c192 n).e,(c131 n).e,(c194 n).e,(c193 n).e,(c195 n).e,(c196 n).e,(c133 n).e,(c197 n).e,(c94 n).e]
def Sr (n:Nat):LP Tryz.prog Tryz.f129.ntmps:=tJ (Ja n) [] 1003 (sb (acM [] [3,16,17] Tryz.f129) 1003) true ⟨[(0,.p 0 0),(2,.p 1 0),(3,.p 2 0),(15,.b)],[(0,.cells q21),(1,.cells q30),(2,.cells [.ik .u8 3,.bk false,.bk false,.sk [],.ik .i64 0,.ik .i64 0,.sk [],.sk [],.ik .u8 0,.ik .u8 0,.ik .u8 0,.ik .u8 0,.bk false,.bk false,.sk [],.ik .i64 0,.ik .i64 0,.sk [],.sk [],.ik .u8 0,.ik .u8 0,.ik .u8 0,.ik .u8 0,.bk false,.bk false,.sk [],.ik .i64 0,.ik .i64 0,.sk [],.sk [],.ik .u8 0,.ik .u8 0,.ik .u8 0,.ws 4,.bk false,.bk false]),(3,.rows q11),(4,.rows q11)],5,1,0,1⟩ [⟨.nrm,⟨[(0,.p 0 0),(2,.p 1 0),(3,.p 2 0)],[(0,.cells q21),(1,.cells q30),(2,.cells [.i .u8,.bk false,.bk false,.sk [],.ik .i64 0,.ik .i64 0,.sk [],.sk [],.ik .u8 0,.ik .u8 0,.ik .u8 0,.ik .u8 0,.bk false,.bk false,.sk [],.ik .i64 0,.ik .i64 0,.sk [],.sk [],.ik .u8 0,.ik .u8 0,.ik .u8 0,.ik .u8 0,.bk false,.bk false,.sk [],.ik .i64 0,.ik .i64 0,.sk [],.sk [],.ik .u8 0,.ik .u8 0,.ik .u8 0,.ws 4,.bk false,.bk false]),(3,.rows q11),(4,.rows q11)],5,1,0,1⟩⟩] (lE n)
def Qg (n:Nat):LP Tryz.prog Tryz.f129.ntmps:=tJ (Ja n) [] 1016 (sb (sb (acM [] [3,16,17] Tryz.f129) 0).body 1016) true ⟨q67,q16,7,1,0,1⟩ [⟨.nrm,q60⟩] (kE n)
def Pv (n:Nat):LP Tryz.prog Tryz.f129.ntmps:=tJ (Ja n) [] 1017 (sb (sb (acM [] [3,16,17] Tryz.f129) 0).body 1017) true q60 [⟨.pan (.it 197 (.ag [.i .i64,.i .i64])),⟨[],q36,1,1,0,1⟩⟩,⟨.nrm,⟨q67,[(0,.cells q21),(1,.cells q31),(2,.cells q32),(3,.rows [.i .i64]),(4,.cells q19),(5,.rows q11),(6,.rows q11)],7,1,0,1⟩⟩] (kH n)
def SG (n:Nat):LP Tryz.prog Tryz.f129.ntmps:=dG (Ja n) [Qg n,Pv n] 0 (sb (acM [] [3,16,17] Tryz.f129) 0) true ⟨q76,[(0,.cells q21),(1,.cells [.ik .u8 0,.bk false,.bk false,.sk [],.ik .i64 0,.ik .i64 0,.sk [],.sk [],.ik .u8 0,.ik .u8 0,.ik .u8 0,.ik .u8 0,.bk false,.bk false,.sk [],.ik .i64 0,.ik .i64 0,.sk [],.sk [],.ik .u8 0,.ik .u8 0,.ik .u8 0,.ik .u8 0,.bk false,.bk false,.sk [],.ik .i64 0,.ik .i64 0,.sk [],.sk [],.ik .u8 0,.ik .u8 0,.ik .u8 0,.ws 4,.bk false,.bk false]),(2,.cells [.i .u8,.bk false,.bk false,.sk [],.ik .i64 0,.ik .i64 0,.sk [],.sk [],.ik .u8 0,.ik .u8 0,.ik .u8 0,.ik .u8 0,.bk false,.bk false,.sk [],.ik .i64 0,.ik .i64 0,.sk [],.sk [],.ik .u8 0,.ik .u8 0,.ik .u8 0,.ik .u8 0,.bk false,.bk false,.sk [],.ik .i64 0,.ik .i64 0,.sk [],.sk [],.ik .u8 0,.ik .u8 0,.ik .u8 0,.ws 5,.b,.bk false]),(3,.rows [.i .i64]),(4,.rows q11),(5,.rows q11)],6,1,0,1⟩ [.nilT 6 1000 [.i .i64]] [⟨.pan (.it 197 (.ag [.i .i64,.i .i64])),⟨[],q36,1,1,0,1⟩⟩,⟨.exit 0,⟨q76,[(0,.cells q21),(1,.cells q45),(2,.cells q46),(3,.rows [.i .i64]),(4,.rows q11),(5,.rows q11)],6,1,0,1⟩⟩] (eu n) n
def c129 (n:Nat):FF Tryz.prog 129 [.p 0 0] q59 0 1 [⟨.it 197 (.ag [.i .i64,.i .i64]),q36,[],true⟩,⟨.ag [.i .u8,.bd,.b,.s,.i .i64,.i .i64,.s,.s,.i .u8,.i .u8,.i .u8,.i .u8,.bd,.b,.s,.i .i64,.i .i64,.s,.s,.i .u8,.i .u8,.i .u8,.i .u8,.bd,.b,.s,.i .i64,.i .i64,.s,.s,.i .u8,.i .u8,.i .u8,.rs 21 1 0 .q (some .q),.b,.b],[(0,.cells q21),(1,.rows q11)],[1],false⟩]:=funC Tryz.func129 Tryz.call129 (Ja n) [Sr n,SG n] [] [3,16,17] [0] (lL n)
def c130 (n:Nat):FF Tryz.prog 130 [.p 2 0,.i .i64] [.cells q21,.rows q11,.cells q37] 2 3 [⟨.tp [],[(2,.cells q37)],[],false⟩]:=funC Tryz.func130 Tryz.call130 [] [] [] [] [2,0,1] (eX n)
def OG (n:Nat):FF Tryz.prog 130 [.p 2 0,.i .i64] [.cells q21,.rows q11,.cells q40] 2 3 [⟨.tp [],[(2,.cells q40)],[],false⟩]:=funC Tryz.func130 Tryz.call130 [] [] [] [] [2,0,1] (cq n)
def HD (_n:Nat):Ent:=Of 252
theorem Gn (n:Nat):ep Tryz.prog (HD n):=JX Tryz.call252 λs c w h1 h2 h3=>Tryz.strings_TrimRight_laid s c w h1 h2 h3
def c252 (n:Nat):FE Tryz.prog:=libF (Gn n)
def S0 (n:Nat):PF Tryz.prog 295 [.s,.sk [45]] (.b):=aM Tryz.func295 Tryz.call295 [] [] [] [] (eD n)
def c296 (n:Nat):PF Tryz.prog 296 [.s,.sk [45]] (.s):=aM Tryz.func296 Tryz.call296 [(S0 n).e] [] [] [] (fc n)
def c253 (n:Nat):PF Tryz.prog 253 [.s,.sk [45]] (.s):=aM Tryz.func253 Tryz.call253 [(c296 n).e] [] [] [] (gW n)
end
end Go.Sh
