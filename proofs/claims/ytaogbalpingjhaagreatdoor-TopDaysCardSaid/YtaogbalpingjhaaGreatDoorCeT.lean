/- Each function of the program computes its plain function: the certificates.
   Conditions: none. Printed by the bench tool gen.py. -/
import Derived.Test.YtaogbalpingjhaaGreatDoorAbsPat
import Derived.Test.YtaogbalpingjhaaGreatDoorHGa
import Derived.Test.YtaogbalpingjhaaGreatDoorHGb
import Derived.Test.YtaogbalpingjhaaGreatDoorHGe
set_option linter.unusedVariables false
set_option linter.unusedSimpArgs false
set_option maxRecDepth 100000
set_option maxHeartbeats 4000000
namespace Go.Sh
open Go.Abs Go.Proofs
noncomputable section
abbrev q20:List PV:=[.s,.i .i64]
abbrev q33:List PV:=[.b,.b,.s,.i .i64,.i .i64]
abbrev q32:List PV:=[.i .u8,.b,.i .u16,.i .u8,.i .u8,.i .u8,.i .u8,.i .u8,.i .u8,.i .u8]
abbrev q19:List PV:=[.b,.b,.s,.i .i64,.i .i64,.s,.s,.i .u8,.i .u8,.i .u8]
abbrev q66:List PV:=[.ag q19]
abbrev q75:List (Nat×PV):=[(0,.s),(7,.s),(8,.i .i64),(9,.i .i64),(12,.i .i64)]
abbrev q26:List PV:=[.i .i64,.i .i64,.i .i64]
abbrev q28:List PV:=[.i .i8,.i .i64,.i .i8,.i .i64]
abbrev q58:List (Nat×PB):=[(0,.rows [.i .i64])]
abbrev q24:List PV:=[.b,.b,.s,.i .i64,.i .i64,.s,.s,.i .u8,.i .u8,.i .u8,.ws 0,.ws 1]
abbrev q63:List PB:=[.rows [.i .i64]]
abbrev q56:PSt:=⟨[(0,.s),(1,.i .i64),(2,.b),(8,.i .u8),(9,.i .u8),(10,.p 0 0),(11,.p 1 0),(12,.i .i64)],[(0,.ints .u8 18),(1,.ints .u8 18)],2,0,0,0⟩
abbrev q70:List PB:=[.rows [.i .i64],.rows [.i .i64]]
abbrev q53:List (Nat×PB):=[(0,.rows [.i .i64]),(1,.rows [.i .i64]),(2,.cells q24),(3,.cells q26),(4,.cells [.b]),(5,.cells [.ik .i64 0,.ik .i64 0,.ik .i64 0])]
abbrev q12:List (Nat×PB):=[(0,.rows [.i .i64]),(1,.rows [.i .i64]),(2,.cells q24),(3,.cells q26),(4,.cells [.b]),(5,.cells q26),(62,.rows [.i .i64]),(63,.rows [.i .i64])]
abbrev q15:List (Nat×PB):=[(0,.rows [.i .i64]),(1,.rows [.i .i64]),(2,.cells q24),(3,.cells q26),(4,.cells [.b]),(5,.cells q26)]
abbrev q42:PSt:=⟨[(3,.p 2 0),(4,.p 3 0),(5,.p 4 0),(6,.p 5 0),(8,.i .i64),(9,.ws 62),(10,.ws 63),(11,.fn 175 [.p 4 0]),(12,.i .i64),(15,.i .i64),(16,.b),(17,.i .i64),(53,.ws 62),(54,.i .i64),(55,.i .i64)],q12,64,2,2,2⟩
abbrev q44:PSt:=⟨[(3,.p 2 0),(4,.p 3 0),(5,.p 4 0),(6,.p 5 0),(8,.i .i64),(9,.ws 0),(10,.ws 1),(11,.fn 175 [.p 4 0]),(12,.i .i64),(15,.i .i64),(16,.b),(17,.i .i64),(53,.ws 0),(54,.i .i64),(55,.i .i64)],q15,62,2,2,2⟩
abbrev q54:PSt:=⟨[(6,.p 5 0),(7,.b)],[(5,.cells q26)],64,2,2,2⟩
abbrev q23:PSt:=⟨[(3,.p 2 0),(4,.p 3 0),(5,.p 4 0),(6,.p 5 0),(8,.i .i64),(9,.ws 62),(10,.ws 63),(11,.fn 175 [.p 4 0]),(12,.i .i64),(53,.ws 62),(54,.i .i64),(55,.i .i64)],q12,64,2,2,2⟩
abbrev q55:PSt:=⟨[(6,.p 5 0),(7,.b)],[(5,.cells q26)],62,2,2,2⟩
abbrev q25:PSt:=⟨[(3,.p 2 0),(4,.p 3 0),(5,.p 4 0),(6,.p 5 0),(8,.i .i64),(9,.ws 0),(10,.ws 1),(11,.fn 175 [.p 4 0]),(12,.i .i64),(53,.ws 0),(54,.i .i64),(55,.i .i64)],q15,62,2,2,2⟩
abbrev q57:List PV:=[.i .i8,.i .i64]
abbrev q59:List PB:=[.cells q20]
abbrev q36:List (Nat×PB):=[(0,.cells q20)]
abbrev q71:List PX:=[⟨.ret,⟨[(4,.i .i64)],[],1,1,1,1⟩⟩,⟨.exit 0,⟨[],[],1,1,1,1⟩⟩]
abbrev q69:List (Nat×PB):=[(1,.cells q20)]
abbrev q73:List PV:=[.p 0 0,.p 1 0]
abbrev q64:List PB:=[.cells [.fn 79 [.p 1 0]],.cells [.fn 1000078 [.p 3 0]],.cells q19,.cells q20]
abbrev q62:List (Nat×PB):=[(2,.cells q19),(3,.cells q20)]
abbrev q11:List Lf:=[.bo,.bo,.s,.i .i64,.i .i64,.s,.s,.i .u8,.i .u8,.i .u8,.bo,.bo,.bo,.s,.i .i64,.i .i64,.s,.s,.i .u8,.i .u8,.i .u8]
abbrev q51:List PB:=[.rows q11]
abbrev q13:List PV:=[.i .u8,.bd,.b,.s,.i .i64,.i .i64,.s,.s,.i .u8,.i .u8,.i .u8,.i .u8,.bd,.b,.s,.i .i64,.i .i64,.s,.s,.i .u8,.i .u8,.i .u8,.i .u8,.bd,.b,.s,.i .i64,.i .i64,.s,.s,.i .u8,.i .u8,.i .u8,.rs 21 0 0 .q (some .q),.b,.b]
abbrev q78:List PV:=[.ag q13]
abbrev q48:List PV:=[.i .u8,.b,.b,.s,.i .i64,.i .i64,.s,.s,.i .u8,.i .u8,.i .u8]
abbrev q18:List PV:=[.bd,.b,.s,.i .i64,.i .i64,.s,.s,.i .u8,.i .u8,.i .u8,.b,.bd,.b,.s,.i .i64,.i .i64,.s,.s,.i .u8,.i .u8,.i .u8]
abbrev q22:List PV:=[.bd,.b,.s,.i .i64,.i .i64,.s,.s,.i .u8,.i .u8,.i .u8]
abbrev q39:List PV:=[.i .u8,.bd,.b,.s,.i .i64,.i .i64,.s,.s,.i .u8,.i .u8,.i .u8,.i .u8,.bd,.b,.s,.i .i64,.i .i64,.s,.s,.i .u8,.i .u8,.i .u8,.i .u8,.bd,.b,.s,.i .i64,.i .i64,.s,.s,.i .u8,.i .u8,.i .u8,.rs 21 2 0 .q (some .q),.b,.b]
abbrev q50:List PV:=[.i .i64,.fn 203 [.p 1 0,.p 2 0],.i .i64,.fn 204 [.p 2 0,.p 3 0,.p 1 0],.i .i64,.fn 206 [.p 2 0,.p 3 0,.p 4 0,.p 1 0],.i .i64,.fn 207 [.p 2 0,.p 4 0]]
abbrev q68:List PX:=[⟨.ret,⟨[(2,.i .i64),(3,.i .i64)],[],1,1,1,1⟩⟩,⟨.exit 0,⟨[],[],1,1,1,1⟩⟩]
abbrev q29:List PV:=[.ik .u8 0,.bk false,.bk false,.sk [],.ik .i64 0,.ik .i64 0,.sk [],.sk [],.ik .u8 0,.ik .u8 0,.ik .u8 0,.ik .u8 0,.bk false,.bk false,.sk [],.ik .i64 0,.ik .i64 0,.sk [],.sk [],.ik .u8 0,.ik .u8 0,.ik .u8 0,.ik .u8 0,.bk false,.bk false,.sk [],.ik .i64 0,.ik .i64 0,.sk [],.sk [],.ik .u8 0,.ik .u8 0,.ik .u8 0,.ws 3,.bk false,.bk false]
abbrev q67:List (Nat×PV):=[(0,.p 0 0),(2,.p 1 0),(3,.p 2 0),(5,.s),(6,.ws 3),(7,.p 4 0),(9,.i .i64)]
abbrev q30:List PV:=[.ik .u8 0,.bk false,.bk false,.sk [],.ik .i64 0,.ik .i64 0,.sk [],.sk [],.ik .u8 0,.ik .u8 0,.ik .u8 0,.ik .u8 0,.bk false,.bk false,.sk [],.ik .i64 0,.ik .i64 0,.sk [],.sk [],.ik .u8 0,.ik .u8 0,.ik .u8 0,.ik .u8 0,.bk false,.bk false,.sk [],.ik .i64 0,.ik .i64 0,.sk [],.sk [],.ik .u8 0,.ik .u8 0,.ik .u8 0,.ws 5,.bk false,.bk false]
abbrev q31:List PV:=[.i .u8,.bk false,.bk false,.sk [],.ik .i64 0,.ik .i64 0,.sk [],.sk [],.ik .u8 0,.ik .u8 0,.ik .u8 0,.ik .u8 0,.bk false,.bk false,.sk [],.ik .i64 0,.ik .i64 0,.sk [],.sk [],.ik .u8 0,.ik .u8 0,.ik .u8 0,.ik .u8 0,.bk false,.bk false,.sk [],.ik .i64 0,.ik .i64 0,.sk [],.sk [],.ik .u8 0,.ik .u8 0,.ik .u8 0,.ws 6,.b,.bk false]
abbrev q16:List (Nat×PB):=[(0,.cells q20),(1,.cells q30),(2,.cells q31),(3,.rows [.i .i64]),(4,.cells [.bd,.b,.s,.i .i64,.i .i64,.s,.s,.i .u8,.i .u8,.i .u8,.bk false,.bk false,.bk false,.sk [],.ik .i64 0,.ik .i64 0,.sk [],.sk [],.ik .u8 0,.ik .u8 0,.ik .u8 0]),(5,.rows q11),(6,.rows q11)]
abbrev q60:PSt:=⟨[(0,.p 0 0),(2,.p 1 0),(3,.p 2 0),(5,.s),(6,.ws 3),(7,.p 4 0),(9,.i .i64),(49,.b)],q16,7,1,0,1⟩
abbrev q76:List (Nat×PV):=[(0,.p 0 0),(2,.p 1 0),(3,.p 2 0),(5,.s),(6,.ws 3)]
abbrev q45:List PV:=[.i .u8,.bd,.b,.s,.i .i64,.i .i64,.s,.s,.i .u8,.i .u8,.i .u8,.i .u8,.bd,.b,.s,.i .i64,.i .i64,.s,.s,.i .u8,.i .u8,.i .u8,.i .u8,.bd,.b,.s,.i .i64,.i .i64,.s,.s,.i .u8,.i .u8,.i .u8,.ws 4,.b,.b]
abbrev q46:List PV:=[.i .u8,.bd,.b,.s,.i .i64,.i .i64,.s,.s,.i .u8,.i .u8,.i .u8,.i .u8,.bd,.b,.s,.i .i64,.i .i64,.s,.s,.i .u8,.i .u8,.i .u8,.i .u8,.bd,.b,.s,.i .i64,.i .i64,.s,.s,.i .u8,.i .u8,.i .u8,.ws 5,.b,.b]
abbrev q37:List PV:=[.p 0 0,.i .u8,.bd,.b,.s,.i .i64,.i .i64,.s,.s,.i .u8,.i .u8,.i .u8,.i .u8,.bd,.b,.s,.i .i64,.i .i64,.s,.s,.i .u8,.i .u8,.i .u8,.i .u8,.bd,.b,.s,.i .i64,.i .i64,.s,.s,.i .u8,.i .u8,.i .u8,.rs 21 1 0 .q (some .q),.b,.b,.i .i64]
abbrev q40:List PV:=[.p 0 0,.i .u8,.bd,.b,.s,.i .i64,.i .i64,.s,.s,.i .u8,.i .u8,.i .u8,.i .u8,.bd,.b,.s,.i .i64,.i .i64,.s,.s,.i .u8,.i .u8,.i .u8,.i .u8,.bd,.b,.s,.i .i64,.i .i64,.s,.s,.i .u8,.i .u8,.i .u8,.ws 1,.b,.b,.i .i64]
def c65 (n:Nat):PF Tryz.prog 65 [.i .u16] (.s):=aB Tryz.func65 Tryz.call65 [] [] [] [] (gq n)
def Jq (n:Nat):LP Tryz.prog Tryz.f129.ntmps:=cb [] [] 0 (sb (acM [] [] Tryz.f129) 0) false ⟨[(0,.s),(1,.i .u8),(2,.i .u8),(7,.i .i64),(8,.i .i64)],[],0,0,0,0⟩ [] [⟨.exit 0,⟨[(7,.i .i64)],[],0,0,0,0⟩⟩] (dD n) n
def c129 (n:Nat):PF Tryz.prog 129 [.s,.i .u8,.i .u8] (.i .i64):=aB Tryz.func129 Tryz.call129 [] [Jq n] [] [] (en n)
def JP (n:Nat):LP Tryz.prog Tryz.f130.ntmps:=cb [] [] 0 (sb (acM [] [] Tryz.f130) 0) false ⟨[(0,.s),(1,.i .i64),(6,.i .i64),(7,.i .i64)],[],0,0,0,0⟩ [] [⟨.ret,⟨[(4,.i .i64),(5,.i .i64)],[],0,0,0,0⟩⟩,⟨.exit 0,⟨[(6,.i .i64)],[],0,0,0,0⟩⟩] (cJ n) n
def c130 (n:Nat):PF Tryz.prog 130 q20 (.tp [.i .i64,.i .i64]):=aB Tryz.func130 Tryz.call130 [] [JP n] [] [] (ct n)
def c66 (n:Nat):PF Tryz.prog 66 [.ag q33] (.i .i64):=aB Tryz.func66 Tryz.call66 [(c129 n).e,(c130 n).e] [] [] [] (bC n)
def c24E (n:Nat):List (FE Tryz.prog):=[(c65 n).e,(c66 n).e]
def KF (n:Nat):LP Tryz.prog Tryz.f24.ntmps:=cb (c24E n) [] 0 (sb (acM [] [] Tryz.f24) 0) false ⟨[(2,.p 1 0),(3,.p 50 0),(4,.i .i64),(5,.i .i64),(6,.s),(7,.i .i64)],[(1,.cells q33),(50,.cells q33)],162,0,0,0⟩ [] [⟨.exit 1,⟨[(2,.p 1 0),(3,.p 50 0),(6,.s)],[(1,.cells q33),(50,.cells q33)],162,0,0,0⟩⟩] (dh n) n
def c24 (n:Nat):PF Tryz.prog 24 [.ag [.i .u8,.b,.i .u16,.i .u8,.i .u8]] (.ag q33):=aB Tryz.func24 Tryz.call24 (c24E n) [KF n] [] [] (ga n)
def c67 (n:Nat):PF Tryz.prog 67 [.i .i64] (.s):=aB Tryz.func67 Tryz.call67 [] [] [] [] (aJ n)
def c25 (n:Nat):PF Tryz.prog 25 [.ag q32] (.s):=aB Tryz.func25 Tryz.call25 [(c67 n).e] [] [] [] (df n)
def c26E (n:Nat):List (FE Tryz.prog):=[(c67 n).e]
def J8 (n:Nat):LP Tryz.prog Tryz.f26.ntmps:=cb (c26E n) [] 0 (sb (acM [] [] Tryz.f26) 0) false ⟨[(1,.p 0 0),(3,.i .i64)],[(0,.cells q19)],1,0,0,0⟩ [] [⟨.ret,⟨[(2,.i .i64)],[],1,0,0,0⟩⟩,⟨.exit 0,⟨[],[],1,0,0,0⟩⟩] (aX n) n
def c26 (n:Nat):PF Tryz.prog 26 q66 (.i .i64):=aB Tryz.func26 Tryz.call26 (c26E n) [J8 n] [] [] (dA n)
def c27 (n:Nat):PF Tryz.prog 27 [.ag q32,.s] (.s):=aB Tryz.func27 Tryz.call27 [(c67 n).e] [] [] [] (dZ n)
def c28 (n:Nat):PF Tryz.prog 28 q66 (.i .i64):=aB Tryz.func28 Tryz.call28 [] [] [] [] (al n)
def c5 (n:Nat):PF Tryz.prog 5 [.ag q32] (.ag q19):=aB Tryz.func5 Tryz.call5 [(c24 n).e,(c25 n).e,(c26 n).e,(c27 n).e,(c28 n).e] [] [0] [] (aK n)
def c15 (n:Nat):PF Tryz.prog 15 [.ag q32] (.ag q19):=aB Tryz.func15 Tryz.call15 [(c5 n).e] [] [] [] (fJ n)
def c231 (_n:Nat):FE Tryz.prog:=libF (A5 Tryz.func231 (by kernel_rfl) (by kernel_rfl) (by kernel_rfl) (by kernel_rfl))
def c195 (n:Nat):PF Tryz.prog 195 [.s,.i .u8] (.i .i64):=aB Tryz.func195 Tryz.call195 [(c231 n)] [] [] [] (bv n)
def c145 (n:Nat):PF Tryz.prog 145 [.s,.i .u8] (.i .i64):=aB Tryz.func145 Tryz.call145 [(c195 n).e] [] [] [] (bI n)
def c221 (n:Nat):PF Tryz.prog 221 [.i .i32] (.b):=aB Tryz.func221 Tryz.call221 [] [] [] [] (bZ n)
def AW (n:Nat):List (FE Tryz.prog):=[(c145 n).e,(c221 n).e]
def Ju (n:Nat):LP Tryz.prog Tryz.f187.ntmps:=cb (AW n) [] 0 (sb (acM [] [] Tryz.f187) 0) false ⟨[(175,.p 0 0)],[(0,.iter)],1,0,0,0⟩ [] [⟨.ret,⟨[(4,.i .i64)],[],1,0,0,0⟩⟩,⟨.exit 9,⟨[],[],1,0,0,0⟩⟩] (bS n) n
def I2 (n:Nat):LP Tryz.prog Tryz.f187.ntmps:=cb (AW n) [] 2 (sb (sb (acM [] [] Tryz.f187) 1).body 2) false ⟨q75,[],128,0,0,0⟩ [] [⟨.exit 3,⟨[(8,.i .i64),(9,.i .i64)],[],128,0,0,0⟩⟩] (iI n) n
def HE (n:Nat):LP Tryz.prog Tryz.f187.ntmps:=cb (AW n) [] 2 (sb (sb (acM [] [] Tryz.f187) 1).body 2) false ⟨q75,[],56,0,0,0⟩ [] [⟨.exit 3,⟨[(8,.i .i64),(9,.i .i64)],[],56,0,0,0⟩⟩] (ij n) n
def Iz (n:Nat):LP Tryz.prog Tryz.f187.ntmps:=cb (AW n) [altL (I2 n) (HE n) rfl] 1 (sb (acM [] [] Tryz.f187) 1) false ⟨[(0,.s),(7,.s),(8,.i .i64),(9,.i .i64)],[],0,0,0,0⟩ [] [⟨.ret,⟨[(4,.i .i64)],[],0,0,0,0⟩⟩,⟨.exit 1,⟨[],[],0,0,0,0⟩⟩] (bP n) n
def c187 (n:Nat):PF Tryz.prog 187 [.s,.i .i32] (.i .i64):=aB Tryz.func187 Tryz.call187 (AW n) [Ju n,Iz n,noL 3 (sb (acM [] [] Tryz.f187) 3)] [] [] (cc n)
def c133 (n:Nat):PF Tryz.prog 133 [.s,.i .i32] (.b):=aB Tryz.func133 Tryz.call133 [(c187 n).e] [] [] [] (bQ n)
def c132 (n:Nat):FF Tryz.prog 132 [.i .i32,.p 0 0] [.cells [.s]] 1 1 [⟨.b,[],[],false⟩]:=funC Tryz.func132 Tryz.call132 [(c133 n).e] [] [] [] [0] (fH n)
def IH (n:Nat):List (FE Tryz.prog):=[(c132 n).e]
def Jy (n:Nat):LP Tryz.prog Tryz.f186.ntmps:=cb (IH n) [] 0 (sb (acM [] [] Tryz.f186) 0) false ⟨[(1,.fn 132 [.p 0 0]),(2,.b),(10,.p 1 0)],[(0,.cells [.s]),(1,.iter)],2,1,1,1⟩ [] [⟨.ret,⟨[(6,.i .i64)],[],2,1,1,1⟩⟩,⟨.exit 0,⟨[],[],2,1,1,1⟩⟩] (bp n) n
def c186 (n:Nat):FF Tryz.prog 186 [.s,.fn 132 [.p 0 0],.b] [.cells [.s]] 1 1 [⟨.i .i64,[],[],false⟩]:=funC Tryz.func186 Tryz.call186 (IH n) [Jy n] [] [] [0] (gV n)
def c131 (n:Nat):FF Tryz.prog 131 [.s,.fn 132 [.p 0 0]] [.cells [.s]] 1 1 [⟨.i .i64,[],[],false⟩]:=funC Tryz.func131 Tryz.call131 [(c186 n).e] [] [] [] [0] (gQ n)
def c68 (n:Nat):PF Tryz.prog 68 [.s,.s] (.b):=aB Tryz.func68 Tryz.call68 [(c131 n).e] [] [] [] (dq n)
def Jj (n:Nat):LP Tryz.prog Tryz.f135.ntmps:=cb [] [] 0 (sb (acM [] [] Tryz.f135) 0) false ⟨[(0,.s),(1,.i .u8)],[],0,0,0,0⟩ [] [⟨.exit 0,⟨[(0,.s)],[],0,0,0,0⟩⟩] (bJ n) n
def c135 (n:Nat):PF Tryz.prog 135 [.s,.i .u8] (.s):=aB Tryz.func135 Tryz.call135 [] [Jj n] [] [] (de n)
def Ir (n:Nat):LP Tryz.prog Tryz.f134.ntmps:=cb [] [] 0 (sb (acM [] [] Tryz.f134) 0) false ⟨[(0,.s),(1,.i .u8)],[],0,0,0,0⟩ [] [⟨.exit 0,⟨[(0,.s)],[],0,0,0,0⟩⟩] (cL n) n
def c134 (n:Nat):PF Tryz.prog 134 [.s,.i .u8] (.s):=aB Tryz.func134 Tryz.call134 [] [Ir n] [] [] (dw n)
def c69 (n:Nat):PF Tryz.prog 69 [.s,.sk [48]] (.s):=aB Tryz.func69 Tryz.call69 [(c135 n).e,(c134 n).e] [] [] [] (jJ n)
def c216 (n:Nat):PF Tryz.prog 216 [.s,.sk [88]] (.i .i64):=aB Tryz.func216 Tryz.call216 [(c195 n).e] [noL 0 (sb (acM [] [] Tryz.f216) 0)] [] [] (eQ n)
def c168 (n:Nat):PF Tryz.prog 168 [.s,.sk [88]] (.i .i64):=aB Tryz.func168 Tryz.call168 [(c216 n).e] [] [] [] (iW n)
def c102 (n:Nat):PF Tryz.prog 102 [.s,.sk [88]] (.b):=aB Tryz.func102 Tryz.call102 [(c168 n).e] [] [] [] (ed n)
def c48 (n:Nat):PF Tryz.prog 48 [.ag q33] (.b):=aB Tryz.func48 Tryz.call48 [(c102 n).e] [] [] [] (bm n)
noncomputable def A7 (_n:Nat):Ent:=BD 103
theorem zQ (n:Nat):cD Tryz.prog (A7 n):=Dy Tryz.call103 λs h v hv w=>(Tryz.strconv_ParseInt_10_at64_ok s h v hv w).mono λe w' ⟨h1,h2⟩=>⟨h1,h2.elim (λh=>h▸RowKit.Below.refl _ _) (λ⟨t,h⟩=>h▸lc _ _ _)⟩
def c103 (n:Nat):FE Tryz.prog:=libF (zQ n)
def JS (n:Nat):LP Tryz.prog Tryz.f104.ntmps:=cb [] [] 0 (sb (acM [] [] Tryz.f104) 0) false ⟨[(4,.i .i64),(9,.i .i64),(10,.i .i64)],[],0,0,0,0⟩ [] [⟨.exit 0,⟨[(4,.i .i64)],[],0,0,0,0⟩⟩] (fZ n) n
def c104 (n:Nat):PF Tryz.prog 104 [.i .i64] (.tp [.i .i64,.i .i64]):=aB Tryz.func104 Tryz.call104 [] [JS n] [] [] (kw n)
def c171 (n:Nat):PF Tryz.prog 171 [.i .i64] (.i .u64):=aB Tryz.func171 Tryz.call171 [] [] [] [] (od n)
def c170 (n:Nat):PF Tryz.prog 170 [.i .u64,.i .u64] (.tp [.i .u64,.i .u64]):=aB Tryz.func170 Tryz.call170 [] [] [] [] (gy n)
def c172 (n:Nat):PF Tryz.prog 172 [.i .u64,.b] (.tp [.i .i64,.i .i64]):=aB Tryz.func172 Tryz.call172 [] [] [] [] (mX n)
def c105 (n:Nat):PF Tryz.prog 105 [.i .i64,.i .i64] (.tp [.i .i64,.i .i64]):=aB Tryz.func105 Tryz.call105 [(c171 n).e,(c170 n).e,(c172 n).e] [] [] [] (pO n)
def c49 (n:Nat):PF Tryz.prog 49 [.ag q33] (.tp [.i .i64,.i .i64]):=aB Tryz.func49 Tryz.call49 [(c103 n),(c104 n).e,(c105 n).e] [] [] [] (cf n)
def c70 (n:Nat):PF Tryz.prog 70 [.ag q33] (.b):=aB Tryz.func70 Tryz.call70 [(c68 n).e,(c49 n).e] [] [] [] (aG n)
def c29 (n:Nat):PF Tryz.prog 29 [.ag q33] (.i .i64):=aB Tryz.func29 Tryz.call29 [(c68 n).e,(c69 n).e,(c48 n).e,(c70 n).e] [] [] [] (bi n)
theorem pure_yearforms_Check (n:Nat):∀a r,bi n a.1 a.2.1 a.2.2.1 a.2.2.2.1 a.2.2.2.2=some r->f7 Tryz.prog 29 (argP [.ag q33] a) (encP (.i .i64) r):=λa r h=>(c29 n).ok a r h
def c16 (n:Nat):PF Tryz.prog 16 [.ag q33] (.tp [.i .i64,.i .i64]):=aB Tryz.func16 Tryz.call16 [(c29 n).e,(c48 n).e,(c49 n).e] [] [] [] (bw n)
noncomputable def D3 (_n:Nat):Ent:=GZ 52 235
theorem Bo (n:Nat):cD Tryz.prog (D3 n):=EA Tryz.call52 (λs n hl h w=>(Tryz.strconv_Atoi s n hl h w).mono λe w' ⟨h1,t,h2⟩=>⟨h1,h2▸lc _ _ _⟩) (λs hl h w hg=>FC s hl h w hg)
def c52 (n:Nat):FE Tryz.prog:=libF (Bo n)
def c128 (n:Nat):PF Tryz.prog 128 [.i .i64] (.i .i64):=aB Tryz.func128 Tryz.call128 [] [] [] [] (bN n)
theorem pure_seasons_Check (n:Nat):∀a r,bN n a=some r->f7 Tryz.prog 128 (argP [.i .i64] a) (encP (.i .i64) r):=λa r h=>(c128 n).ok a r h
def c64 (n:Nat):PF Tryz.prog 64 q66 (.tp [.i .i64,.b]):=aB Tryz.func64 Tryz.call64 [(c52 n),(c128 n).e] [] [] [] (aU n)
noncomputable def tf (l:List V):Option (Int):=match l with
 | [.i .i64 a0]=>some (a0)
 | _=>none
noncomputable def CN (n:Nat):Ent:=u1 180 tf (λa=>cQ n a) (λr=>.tp [.i .i64 r.1,.i .i64 r.2.1,.i .i64 r.2.2])
theorem zt (n:Nat):cD Tryz.prog (CN n):=oe (arg:=λa=>[.i .i64 a]) Tryz.call180 (λl a h=>by
 unfold tf at h
 split at h
 ·cases h;rfl
 ·cases h) (λa=>rfl) (λa r h=>mO n (λx r h=>pure_seasons_Check n x r h) a r h)
def c180 (n:Nat):FE Tryz.prog:=libF (zt n)
def c54 (n:Nat):PF Tryz.prog 54 [.i .i64] (.i .i64):=aB Tryz.func54 Tryz.call54 [] [] [] [] (dP n)
def c59 (n:Nat):PF Tryz.prog 59 [.i .i64,.i .i64] (.i .i64):=aB Tryz.func59 Tryz.call59 [(c54 n).e] [] [] [] (fP n)
def c57 (n:Nat):PF Tryz.prog 57 [.i .i64,.i .i64] (.tp [.i .i64,.i .i64]):=aB Tryz.func57 Tryz.call57 [] [] [] [] (nZ n)
def c183 (n:Nat):PF Tryz.prog 183 [.i .i64,.i .i64] (.tp [.i .i64,.i .i64]):=aB Tryz.func183 Tryz.call183 [(c57 n).e] [] [] [] (g9 n)
theorem pure_ints_Div (n:Nat):∀a r,g9 n a.1 a.2=some r->f7 Tryz.prog 183 (argP [.i .i64,.i .i64] a) (encP (.tp [.i .i64,.i .i64]) r):=λa r h=>(c183 n).ok a r h
noncomputable def tc (l:List V):Option (Int):=match l with
 | [.i .i64 a0]=>some (a0)
 | _=>none
noncomputable def Ar (n:Nat):Ent:=u1 120 tc (λa=>cN n a) (λr=>.i .i64 r)
theorem zI (n:Nat):cD Tryz.prog (Ar n):=oe (arg:=λa=>[.i .i64 a]) Tryz.call120 (λl a h=>by
 unfold tc at h
 split at h
 ·cases h;rfl
 ·cases h) (λa=>rfl) (λa r h=>oS n (λx y r h=>pure_ints_Div n (x,y) r h) a r h)
def c120 (n:Nat):FE Tryz.prog:=libF (zI n)
def c55 (n:Nat):PF Tryz.prog 55 [.i .i64] (.i .i64):=aB Tryz.func55 Tryz.call55 [(c120 n)] [] [] [] (dS n)
def c112 (n:Nat):PF Tryz.prog 112 [.i .i64] (.tp [.i .i64,.i .i64]):=aB Tryz.func112 Tryz.call112 [(c54 n).e,(c55 n).e] [] [] [] (gN n)
def c123 (n:Nat):PF Tryz.prog 123 [.i .i64] (.tp [.b,.i .i64]):=aB Tryz.func123 Tryz.call123 [(c54 n).e,(c120 n)] [] [] [] (fX n)
theorem pure_years_Leap (n:Nat):∀a r,fX n a=some r->f7 Tryz.prog 123 (argP [.i .i64] a) (encP (.tp [.b,.i .i64]) r):=λa r h=>(c123 n).ok a r h
noncomputable def we (l:List V):Option (Int×Int):=match l with
 | [.i .i64 a0,.i .i64 a1]=>some (a0,a1)
 | _=>none
noncomputable def Fz (n:Nat):Ent:=u1 60 we (λa=>cj n a.1 a.2) (λr=>.i .i64 r)
theorem BO (n:Nat):cD Tryz.prog (Fz n):=oe (arg:=λa=>[.i .i64 a.1,.i .i64 a.2]) Tryz.call60 (λl a h=>by
 unfold we at h
 split at h
 ·cases h;rfl
 ·cases h) (λa=>rfl) (λa r h=>nO n (λx r h=>pure_years_Leap n x r h) a.1 a.2 r h)
def c60 (n:Nat):FE Tryz.prog:=libF (BO n)
def I0 (n:Nat):List (FE Tryz.prog):=[(c59 n).e,(c112 n).e,(c60 n)]
def JQ (n:Nat):LP Tryz.prog Tryz.f116.ntmps:=cb (I0 n) [] 0 (sb (acM [] [] Tryz.f116) 0) false ⟨[(0,.i .i64),(7,.i .i64),(22,.i .i64),(23,.i .i64)],[],0,0,0,0⟩ [] [⟨.exit 0,⟨[(7,.i .i64)],[],0,0,0,0⟩⟩] (aV n) n
def c116 (n:Nat):PF Tryz.prog 116 [.i .i64,.i .i64] (.tp [.i .i64,.i .i64]):=aB Tryz.func116 Tryz.call116 (I0 n) [JQ n] [] [] (cP n)
noncomputable def vw (l:List V):Option (Int×Int):=match l with
 | [.i .i64 a0,.i .i64 a1]=>some (a0,a1)
 | _=>none
noncomputable def EP (n:Nat):Ent:=u1 58 vw (λa=>fM n a.1 a.2) (λr=>.tp [.i .i64 r.1,.i .i64 r.2])
theorem BN (n:Nat):cD Tryz.prog (EP n):=oe (arg:=λa=>[.i .i64 a.1,.i .i64 a.2]) Tryz.call58 (λl a h=>by
 unfold vw at h
 split at h
 ·cases h;rfl
 ·cases h) (λa=>rfl) (λa r h=>tn n a.1 a.2 r h)
def c58 (n:Nat):FE Tryz.prog:=libF (BN n)
def c220 (n:Nat):PF Tryz.prog 220 [.i .i64,.i .i64] (.tp [.i .i64,.i .i64]):=aB Tryz.func220 Tryz.call220 [] [] [] [] (pN n)
def c181 (n:Nat):PF Tryz.prog 181 q26 (.tp q26):=aB Tryz.func181 Tryz.call181 [(c59 n).e,(c58 n),(c183 n).e,(c220 n).e,(c54 n).e] [] [] [] (kb n)
def c117 (n:Nat):PF Tryz.prog 117 [.i .i64,.i .i64] (.tp [.i .i64,.i .i64]):=aB Tryz.func117 Tryz.call117 [(c116 n).e,(c60 n)] [] [] [] (dE n)
def c110 (n:Nat):PF Tryz.prog 110 [.i .i64,.i .i64] (.tp [.ag q28,.i .i64]):=aB Tryz.func110 Tryz.call110 [(c180 n),(c116 n).e,(c181 n).e,(c117 n).e] [] [] [] (dO n)
def c86 (n:Nat):PF Tryz.prog 86 q66 (.b):=aB Tryz.func86 Tryz.call86 [(c29 n).e,(c64 n).e,(c48 n).e,(c16 n).e,(c110 n).e] [] [] [] (cU n)
def Ky (n:Nat):LP Tryz.prog Tryz.f87.ntmps:=cb [] [] 0 (sb (acM [] [] Tryz.f87) 0) false ⟨[(0,.s),(1,.i .i64),(5,.i .i64)],[],0,0,0,0⟩ [] [⟨.ret,⟨[(4,.b)],[],0,0,0,0⟩⟩,⟨.exit 0,⟨[],[],0,0,0,0⟩⟩] (bD n) n
def c87 (n:Nat):PF Tryz.prog 87 q20 (.b):=aB Tryz.func87 Tryz.call87 [] [Ky n] [] [] (bB n)
def c6l0 (n:Nat):LP Tryz.prog Tryz.f6.ntmps:=cb [] [] 0 (sb (acM [] [] Tryz.f6) 0) false ⟨[(3,.i .i64),(10,.ag [.s,.s]),(11,.i .i64)],[],1,0,0,0⟩ [] [⟨.exit 0,⟨[(3,.i .i64)],[],1,0,0,0⟩⟩] (bf n) n
def c6 (n:Nat):PF Tryz.prog 6 q66 (.i .i64):=aB Tryz.func6 Tryz.call6 [] [c6l0 n] [] [] (aI n)
def c34 (n:Nat):PF Tryz.prog 34 [.i .u8] (.i .i64):=aB Tryz.func34 Tryz.call34 [] [] [] [] (dQ n)
def c36E (n:Nat):List (FE Tryz.prog):=[(c34 n).e]
def Ks (n:Nat):LP Tryz.prog Tryz.f36.ntmps:=cb (c36E n) [] 0 (sb (acM [] [] Tryz.f36) 0) false ⟨[(1,.i .i64),(13,.ai .u8 3),(14,.i .i64)],[],1,0,0,0⟩ [] [⟨.ret,⟨[(4,.i .i64)],[],1,0,0,0⟩⟩,⟨.exit 0,⟨[],[],1,0,0,0⟩⟩] (dI n) n
def c36 (n:Nat):PF Tryz.prog 36 [.ai .u8 3,.i .i64] (.i .i64):=aB Tryz.func36 Tryz.call36 (c36E n) [Ks n] [] [] (ck n)
def c41 (n:Nat):PF Tryz.prog 41 q66 (.i .i64):=aB Tryz.func41 Tryz.call41 [(c64 n).e,(c86 n).e,(c87 n).e,(c6 n).e,(c36 n).e] [] [] [] (eG n)
def c211 (n:Nat):PF Tryz.prog 211 q20 (.b):=aB Tryz.func211 Tryz.call211 [] [] [] [] (gv n)
def JM (n:Nat):List (FE Tryz.prog):=[(c211 n).e]
def iO9 (n:Nat):LP Tryz.prog Tryz.f163.ntmps:=cb (JM n) [] 0 (sb (acM [] [] Tryz.f163) 0) false ⟨[(0,.s),(5,.ws 0),(7,.i .i64),(8,.i .i64)],q58,1,0,0,0⟩ [.nilT 5 0 [.i .i64]] [⟨.exit 0,⟨[(5,.ws 0)],q58,1,0,0,0⟩⟩] (da n) n
def c163 (n:Nat):FF Tryz.prog 163 q20 [] 0 0 [⟨.ws 0,q58,[0],false⟩]:=funC Tryz.func163 Tryz.call163 (JM n) [iO9 n] [] [] [] (cG n)
def c98 (n:Nat):FF Tryz.prog 98 q66 [] 0 0 [⟨.ag q24,[(0,.rows [.i .i64]),(1,.rows [.i .i64])],[0,1],false⟩]:=funC Tryz.func98 Tryz.call98 [(c64 n).e,(c163 n).e] [] [] [] [] (jq n)
def c173 (n:Nat):FF Tryz.prog 173 [.ws 0] q63 1 1 [⟨.ws 1,[(1,.rows [.i .i64])],[1],false⟩]:=funC Tryz.func173 Tryz.call173 [] [] [] [] [0] (fj n)
def IL (n:Nat):LP Tryz.prog Tryz.f174.ntmps:=cb [] [] 0 (sb (acM [] [] Tryz.f174) 0) false ⟨[(0,.ws 0),(2,.i .i64),(3,.i .i64)],q58,1,1,0,1⟩ [] [⟨.exit 0,⟨[],q58,1,1,0,1⟩⟩] (fA n) n
def c174 (n:Nat):FF Tryz.prog 174 [.ws 0] q63 0 1 [⟨.tp [],q58,[],false⟩]:=funC Tryz.func174 Tryz.call174 [] [IL n] [] [] [0] (eq n)
def Jh (n:Nat):LP Tryz.prog Tryz.f164.ntmps:=cb [] [] 0 (sb (acM [] [] Tryz.f164) 0) false ⟨[(0,.s),(9,.p 0 0)],[(0,.iter)],1,0,0,0⟩ [] [⟨.ret,⟨[(2,.i .i64)],[],1,0,0,0⟩⟩,⟨.exit 0,⟨[(0,.s)],[],1,0,0,0⟩⟩] (ei n) n
def c164 (n:Nat):PF Tryz.prog 164 [.s] (.i .i64):=aB Tryz.func164 Tryz.call164 [] [Jh n] [] [] (eP n)
def Jp (n:Nat):LP Tryz.prog Tryz.f259.ntmps:=cb [] [] 0 (sb (acM [] [] Tryz.f259) 0) false ⟨[(1,.i .u8),(5,.i .i64),(9,.ws 0),(10,.i .i64),(11,.i .i64)],[(0,.rows [.i .u8])],1,0,0,0⟩ [] [⟨.exit 0,⟨[(5,.i .i64)],[],1,0,0,0⟩⟩] (dC n) n
def c259 (n:Nat):PF Tryz.prog 259 [.s,.i .u8] (.i .i64):=aB Tryz.func259 Tryz.call259 [] [Jp n] [] [] (ir n)
def c245 (n:Nat):PF Tryz.prog 245 [.s] (.tp [.i .i64,.i .i64]):=aB Tryz.func245 Tryz.call245 [(c164 n).e,(c259 n).e] [] [] [] (kB n)
def c165 (n:Nat):PF Tryz.prog 165 [.i .i64] (.i .i64):=aB Tryz.func165 Tryz.call165 [(c104 n).e] [] [] [] (jD n)
def c246 (n:Nat):PF Tryz.prog 246 q20 (.b):=aB Tryz.func246 Tryz.call246 [(c165 n).e] [] [] [] (iv n)
def IJ (n:Nat):LP Tryz.prog Tryz.f260.ntmps:=cb [] [] 0 (sb (acM [] [] Tryz.f260) 0) false ⟨[(1,.i .i64),(4,.p 0 0),(5,.i .i64)],[(0,.ints .u8 18)],1,0,0,0⟩ [] [⟨.exit 0,⟨[(4,.p 0 0)],[(0,.ints .u8 18)],1,0,0,0⟩⟩] (eo n) n
def c260 (n:Nat):PF Tryz.prog 260 q20 (.ai .u8 18):=aB Tryz.func260 Tryz.call260 [] [IJ n] [] [] (gK n)
def c261 (n:Nat):PF Tryz.prog 261 [.s,.ai .u8 18] (.i .i64):=aB Tryz.func261 Tryz.call261 [(c259 n).e] [] [] [] (dm n)
def FK (n:Nat):List (FE Tryz.prog):=[(c260 n).e,(c261 n).e]
def Is (n:Nat):LP Tryz.prog Tryz.f247.ntmps:=cb (FK n) [] 0 (sb (acM [] [] Tryz.f247) 0) false q56 [] [⟨.exit 0,q56⟩] (cT n) n
def JH (n:Nat):LP Tryz.prog Tryz.f247.ntmps:=cb (FK n) [] 1 (sb (acM [] [] Tryz.f247) 1) false ⟨[(0,.s),(2,.b),(8,.i .u8),(9,.i .u8),(10,.p 0 0),(11,.p 1 0),(12,.i .i64)],[(0,.ints .u8 18),(1,.ints .u8 18)],74,0,0,0⟩ [] [⟨.ret,⟨[(6,.i .i64),(7,.i .i64)],[],74,0,0,0⟩⟩,⟨.exit 2,⟨[(0,.s),(2,.b),(8,.i .u8),(11,.p 1 0),(12,.i .i64)],[(1,.ints .u8 18)],74,0,0,0⟩⟩] (bj n) n
def Jz (n:Nat):LP Tryz.prog Tryz.f247.ntmps:=cb (FK n) [] 2 (sb (acM [] [] Tryz.f247) 2) false ⟨[(0,.s),(8,.i .u8),(11,.p 1 0),(12,.i .i64)],[(1,.ints .u8 18)],74,0,0,0⟩ [] [⟨.exit 5,⟨[(0,.s),(11,.p 1 0)],[(1,.ints .u8 18)],74,0,0,0⟩⟩] (aQ n) n
def c247 (n:Nat):PF Tryz.prog 247 [.s,.i .i64,.b] (.tp [.i .i64,.i .i64]):=aB Tryz.func247 Tryz.call247 (FK n) [Is n,JH n,Jz n] [] [] (bF n)
def c214 (n:Nat):PF Tryz.prog 214 q20 (.tp [.i .i64,.i .i64]):=aB Tryz.func214 Tryz.call214 [(c164 n).e,(c245 n).e,(c246 n).e,(c247 n).e] [] [] [] (ml n)
def c248 (n:Nat):PF Tryz.prog 248 [.s] (.tp [.i .i64,.i .i64]):=aB Tryz.func248 Tryz.call248 [(c164 n).e,(c259 n).e] [] [] [] (hS n)
def c215 (n:Nat):PF Tryz.prog 215 q20 (.tp [.i .i64,.i .i64]):=aB Tryz.func215 Tryz.call215 [(c164 n).e,(c246 n).e,(c248 n).e,(c247 n).e] [] [] [] (ma n)
def c167 (n:Nat):PF Tryz.prog 167 [.s,.i .i64,.b,.i .i64] (.tp [.i .i64,.b]):=aB Tryz.func167 Tryz.call167 [(c214 n).e,(c215 n).e] [] [] [] (cV n)
def c100 (n:Nat):FF Tryz.prog 100 [.ag q24,.i .i64,.b] q70 2 2 [⟨.tp [.i .i64,.b],[],[],false⟩]:=funC Tryz.func100 Tryz.call100 [(c48 n).e,(c16 n).e,(c167 n).e] [] [] [] [0,1] (aM n)
def c175 (n:Nat):FF Tryz.prog 175 [.i .i64,.i .i64,.p 0 0] [.cells [.b]] 1 1 [⟨.b,[],[],false⟩]:=funC Tryz.func175 Tryz.call175 [] [] [] [] [0] (bn n)
def c20 (n:Nat):PF Tryz.prog 20 [.i .i64,.i .i64] (.tp [.i .i64,.i .i64]):=aB Tryz.func20 Tryz.call20 [(c59 n).e,(c60 n)] [] [] [] (jf n)
def c101 (n:Nat):FF Tryz.prog 101 [.ag q24,.i .i64,.i .i64] q70 2 2 [⟨.i .i64,[],[],false⟩]:=funC Tryz.func101 Tryz.call101 [(c20 n).e] [] [] [] [0,1] (bR n)
def mn (n:Nat):List (FE Tryz.prog):=[(c173 n).e,(c174 n).e,(c100 n).e,(c175 n).e,(c101 n).e]
def Jw (n:Nat):LP Tryz.prog Tryz.f106.ntmps:=pB (mn n) [] 1003 (sb (acM [] [3,17,20,23,30] Tryz.f106) 1003) false ⟨[(3,.p 2 0),(4,.p 3 0),(5,.p 4 0),(6,.p 5 0),(8,.ik .i64 1),(9,.ws 0),(10,.ws 1),(25,.b)],q53,62,2,2,2⟩ [⟨.nrm,⟨[(3,.p 2 0),(4,.p 3 0),(5,.p 4 0),(6,.p 5 0),(8,.ik .i64 (-1)),(9,.ws 62),(10,.ws 63)],[(0,.rows [.i .i64]),(1,.rows [.i .i64]),(2,.cells q24),(3,.cells q26),(4,.cells [.b]),(5,.cells [.ik .i64 0,.ik .i64 0,.ik .i64 0]),(62,.rows [.i .i64]),(63,.rows [.i .i64])],64,2,2,2⟩⟩,⟨.nrm,⟨[(3,.p 2 0),(4,.p 3 0),(5,.p 4 0),(6,.p 5 0),(8,.ik .i64 1),(9,.ws 0),(10,.ws 1)],q53,62,2,2,2⟩⟩] (eS n)
def C3 (n:Nat):LP Tryz.prog Tryz.f106.ntmps:=pB (mn n) [] 1020 (sb (sb (sb (sb (acM [] [3,17,20,23,30] Tryz.f106) 0).body 1).body 1017) 1020) false ⟨[(3,.p 2 0),(4,.p 3 0),(5,.p 4 0),(6,.p 5 0),(8,.i .i64),(9,.ws 62),(10,.ws 63),(11,.fn 175 [.p 4 0]),(12,.i .i64),(15,.i .i64),(16,.b),(53,.ws 62),(54,.i .i64),(55,.i .i64)],q12,64,2,2,2⟩ [⟨.nrm,⟨[(3,.p 2 0),(4,.p 3 0),(5,.p 4 0),(6,.p 5 0),(8,.i .i64),(9,.ws 62),(10,.ws 63),(11,.fn 175 [.p 4 0]),(12,.i .i64),(15,.i .i64),(16,.b),(53,.ws 62),(54,.i .i64),(55,.i .i64),(76,.b)],q12,64,2,2,2⟩⟩] (gE n)
def yh (n:Nat):LP Tryz.prog Tryz.f106.ntmps:=pB (mn n) [] 1020 (sb (sb (sb (sb (acM [] [3,17,20,23,30] Tryz.f106) 0).body 1).body 1017) 1020) false ⟨[(3,.p 2 0),(4,.p 3 0),(5,.p 4 0),(6,.p 5 0),(8,.i .i64),(9,.ws 0),(10,.ws 1),(11,.fn 175 [.p 4 0]),(12,.i .i64),(15,.i .i64),(16,.b),(53,.ws 0),(54,.i .i64),(55,.i .i64)],q15,62,2,2,2⟩ [⟨.nrm,⟨[(3,.p 2 0),(4,.p 3 0),(5,.p 4 0),(6,.p 5 0),(8,.i .i64),(9,.ws 0),(10,.ws 1),(11,.fn 175 [.p 4 0]),(12,.i .i64),(15,.i .i64),(16,.b),(53,.ws 0),(54,.i .i64),(55,.i .i64),(76,.b)],q15,62,2,2,2⟩⟩] (cH n)
def Dl (n:Nat):LP Tryz.prog Tryz.f106.ntmps:=pB (mn n) [] 1023 (sb (sb (sb (sb (acM [] [3,17,20,23,30] Tryz.f106) 0).body 1).body 1017) 1023) false q42 [⟨.nrm,q42⟩] (gB n)
def yi (n:Nat):LP Tryz.prog Tryz.f106.ntmps:=pB (mn n) [] 1023 (sb (sb (sb (sb (acM [] [3,17,20,23,30] Tryz.f106) 0).body 1).body 1017) 1023) false q44 [⟨.nrm,q44⟩] (cM n)
def DX (n:Nat):LP Tryz.prog Tryz.f106.ntmps:=pB (mn n) [] 1030 (sb (sb (sb (sb (sb (acM [] [3,17,20,23,30] Tryz.f106) 0).body 1).body 1017) 2).body 1030) false ⟨[(3,.p 2 0),(4,.p 3 0),(5,.p 4 0),(6,.p 5 0),(8,.i .i64),(9,.ws 62),(10,.ws 63),(11,.fn 175 [.p 4 0]),(12,.i .i64),(15,.i .i64),(16,.b),(17,.i .i64),(19,.i .i64),(53,.ws 62),(54,.i .i64),(55,.i .i64),(94,.ws 63),(95,.i .i64),(96,.i .i64)],q12,64,2,2,2⟩ [⟨.nrm,⟨[(3,.p 2 0),(4,.p 3 0),(5,.p 4 0),(6,.p 5 0),(8,.i .i64),(9,.ws 62),(10,.ws 63),(11,.fn 175 [.p 4 0]),(12,.i .i64),(15,.i .i64),(16,.b),(17,.i .i64),(19,.i .i64),(53,.ws 62),(54,.i .i64),(55,.i .i64),(94,.ws 63),(95,.i .i64),(96,.i .i64),(119,.b)],q12,64,2,2,2⟩⟩] (gI n)
def zo (n:Nat):LP Tryz.prog Tryz.f106.ntmps:=pB (mn n) [] 1030 (sb (sb (sb (sb (sb (acM [] [3,17,20,23,30] Tryz.f106) 0).body 1).body 1017) 2).body 1030) false ⟨[(3,.p 2 0),(4,.p 3 0),(5,.p 4 0),(6,.p 5 0),(8,.i .i64),(9,.ws 0),(10,.ws 1),(11,.fn 175 [.p 4 0]),(12,.i .i64),(15,.i .i64),(16,.b),(17,.i .i64),(19,.i .i64),(53,.ws 0),(54,.i .i64),(55,.i .i64),(94,.ws 1),(95,.i .i64),(96,.i .i64)],q15,62,2,2,2⟩ [⟨.nrm,⟨[(3,.p 2 0),(4,.p 3 0),(5,.p 4 0),(6,.p 5 0),(8,.i .i64),(9,.ws 0),(10,.ws 1),(11,.fn 175 [.p 4 0]),(12,.i .i64),(15,.i .i64),(16,.b),(17,.i .i64),(19,.i .i64),(53,.ws 0),(54,.i .i64),(55,.i .i64),(94,.ws 1),(95,.i .i64),(96,.i .i64),(119,.b)],q15,62,2,2,2⟩⟩] (dW n)
def Gp (n:Nat):LP Tryz.prog Tryz.f106.ntmps:=cb (mn n) [altL (DX n) (zo n) rfl] 2 (sb (sb (sb (sb (acM [] [3,17,20,23,30] Tryz.f106) 0).body 1).body 1017) 2) false ⟨[(3,.p 2 0),(4,.p 3 0),(5,.p 4 0),(6,.p 5 0),(8,.i .i64),(9,.ws 62),(10,.ws 63),(11,.fn 175 [.p 4 0]),(12,.i .i64),(15,.i .i64),(16,.b),(17,.i .i64),(53,.ws 62),(54,.i .i64),(55,.i .i64),(94,.ws 63),(95,.i .i64),(96,.i .i64)],q12,64,2,2,2⟩ [] [⟨.ret,q54⟩,⟨.exit 4,q23⟩] (iu n) n
def C4 (n:Nat):LP Tryz.prog Tryz.f106.ntmps:=cb (mn n) [altL (DX n) (zo n) rfl] 2 (sb (sb (sb (sb (acM [] [3,17,20,23,30] Tryz.f106) 0).body 1).body 1017) 2) false ⟨[(3,.p 2 0),(4,.p 3 0),(5,.p 4 0),(6,.p 5 0),(8,.i .i64),(9,.ws 0),(10,.ws 1),(11,.fn 175 [.p 4 0]),(12,.i .i64),(15,.i .i64),(16,.b),(17,.i .i64),(53,.ws 0),(54,.i .i64),(55,.i .i64),(94,.ws 1),(95,.i .i64),(96,.i .i64)],q15,62,2,2,2⟩ [] [⟨.ret,q55⟩,⟨.exit 4,q25⟩] (aW n) n
def BZ (n:Nat):LP Tryz.prog Tryz.f106.ntmps:=pB (mn n) [altL (C3 n) (yh n) rfl,altL (Dl n) (yi n) rfl,altL (Gp n) (C4 n) rfl] 1017 (sb (sb (sb (acM [] [3,17,20,23,30] Tryz.f106) 0).body 1).body 1017) false q23 [⟨.nrm,q23⟩,⟨.ret,q54⟩] (gF n)
def yo (n:Nat):LP Tryz.prog Tryz.f106.ntmps:=pB (mn n) [altL (C3 n) (yh n) rfl,altL (Dl n) (yi n) rfl,altL (Gp n) (C4 n) rfl] 1017 (sb (sb (sb (acM [] [3,17,20,23,30] Tryz.f106) 0).body 1).body 1017) false q25 [⟨.nrm,q25⟩,⟨.ret,q55⟩] (dN n)
def F7 (n:Nat):LP Tryz.prog Tryz.f106.ntmps:=cb (mn n) [altL (BZ n) (yo n) rfl] 1 (sb (sb (acM [] [3,17,20,23,30] Tryz.f106) 0).body 1) false q23 [] [⟨.ret,q54⟩,⟨.exit 2,⟨[(3,.p 2 0),(4,.p 3 0),(5,.p 4 0),(6,.p 5 0),(8,.i .i64),(9,.ws 62),(10,.ws 63),(11,.fn 175 [.p 4 0]),(12,.i .i64)],q12,64,2,2,2⟩⟩] (ii n) n
def AH (n:Nat):LP Tryz.prog Tryz.f106.ntmps:=cb (mn n) [altL (BZ n) (yo n) rfl] 1 (sb (sb (acM [] [3,17,20,23,30] Tryz.f106) 0).body 1) false q25 [] [⟨.ret,q55⟩,⟨.exit 2,⟨[(3,.p 2 0),(4,.p 3 0),(5,.p 4 0),(6,.p 5 0),(8,.i .i64),(9,.ws 0),(10,.ws 1),(11,.fn 175 [.p 4 0]),(12,.i .i64)],q15,62,2,2,2⟩⟩] (bh n) n
def IY (n:Nat):LP Tryz.prog Tryz.f106.ntmps:=cb (mn n) [altL (F7 n) (AH n) rfl] 0 (sb (acM [] [3,17,20,23,30] Tryz.f106) 0) false ⟨[(3,.p 2 0),(4,.p 3 0),(5,.p 4 0),(6,.p 5 0),(8,.i .i64),(9,.ws 62),(10,.ws 63),(11,.fn 175 [.p 4 0]),(12,.i .i64),(13,.b)],q12,64,2,2,2⟩ [] [⟨.ret,q54⟩,⟨.exit 0,⟨[(6,.p 5 0)],[(5,.cells q26)],64,2,2,2⟩⟩] (iw n) n
def HA (n:Nat):LP Tryz.prog Tryz.f106.ntmps:=cb (mn n) [altL (F7 n) (AH n) rfl] 0 (sb (acM [] [3,17,20,23,30] Tryz.f106) 0) false ⟨[(3,.p 2 0),(4,.p 3 0),(5,.p 4 0),(6,.p 5 0),(8,.i .i64),(9,.ws 0),(10,.ws 1),(11,.fn 175 [.p 4 0]),(12,.i .i64),(13,.b)],q15,62,2,2,2⟩ [] [⟨.ret,q55⟩,⟨.exit 0,⟨[(6,.p 5 0)],[(5,.cells q26)],62,2,2,2⟩⟩] (br n) n
def c106 (n:Nat):FF Tryz.prog 106 [.ag q24,.ag q26,.b] q70 2 2 [⟨.tp [.ag q26,.b],[],[],false⟩]:=funC Tryz.func106 Tryz.call106 (mn n) [Jw n,altL (IY n) (HA n) rfl] [] [3,17,20,23,30] [0,1] (eB n)
def c50 (n:Nat):PF Tryz.prog 50 q66 (.i .i64):=aB Tryz.func50 Tryz.call50 [(c41 n).e,(c98 n).e,(c106 n).e] [] [] [] (ba n)
def c95 (n:Nat):PF Tryz.prog 95 q66 (.b):=aB Tryz.func95 Tryz.call95 [(c102 n).e] [] [] [] (bU n)
def c51 (n:Nat):PF Tryz.prog 51 q66 (.b):=aB Tryz.func51 Tryz.call51 [(c95 n).e] [] [] [] (iq n)
def c53 (n:Nat):FF Tryz.prog 53 [] [] 0 0 [⟨.mp 0,[(0,.mp .u8 [(0,109),(1,111),(2,115),(3,118)])],[0],false⟩]:=funC Tryz.func53 Tryz.call53 [] [] [] [] [] (eK n)
def c23 (n:Nat):PF Tryz.prog 23 q66 (.i .u8):=aB Tryz.func23 Tryz.call23 [(c64 n).e] [] [] [] (aC n)
def c109 (n:Nat):FF Tryz.prog 109 [.i .i64,.ws 0] q63 1 1 [⟨.ag q28,[],[],false⟩]:=funC Tryz.func109 Tryz.call109 [(c110 n).e] [] [] [] [0] (dl n)
def c113 (n:Nat):PF Tryz.prog 113 [.i .i64] (.tp [.i .i64,.i .i64]):=aB Tryz.func113 Tryz.call113 [(c54 n).e,(c55 n).e] [] [] [] (oc n)
def c127 (n:Nat):PF Tryz.prog 127 [.i .i64] (.ag q57):=aB Tryz.func127 Tryz.call127 [] [] [] [] (uH n)
def c114 (n:Nat):PF Tryz.prog 114 [.i .i64,.i .i64] (.ag q28):=aB Tryz.func114 Tryz.call114 [(c127 n).e] [] [] [] (mg n)
def c111 (n:Nat):FF Tryz.prog 111 [.i .i64,.ws 0] q63 1 1 [⟨.ag q28,[],[],false⟩]:=funC Tryz.func111 Tryz.call111 [(c112 n).e,(c113 n).e,(c114 n).e] [] [] [] [0] (dj n)
def c115 (n:Nat):FF Tryz.prog 115 [.i .i64,.ws 0] q63 1 1 [⟨.ag q28,[],[],false⟩]:=funC Tryz.func115 Tryz.call115 [(c116 n).e,(c117 n).e,(c114 n).e] [] [] [] [0] (dn n)
def c182 (n:Nat):PF Tryz.prog 182 [.ag q26] (.i .i64):=aB Tryz.func182 Tryz.call182 [(c20 n).e] [] [] [] (lA n)
def c119 (n:Nat):PF Tryz.prog 119 [.ag q26] (.tp [.i .i64,.i .i64]):=aB Tryz.func119 Tryz.call119 [(c182 n).e,(c116 n).e] [] [] [] (mc n)
def c118 (n:Nat):FF Tryz.prog 118 [.i .i64,.ws 0] q63 1 1 [⟨.ag q28,[],[],false⟩]:=funC Tryz.func118 Tryz.call118 [(c119 n).e,(c114 n).e] [] [] [] [0] (dk n)
def c17 (n:Nat):PF Tryz.prog 17 q66 (.tp [.ag q28,.i .i64]):=aB Tryz.func17 Tryz.call17 [(c50 n).e,(c51 n).e,(c16 n).e,(c52 n),(c53 n).e,(c23 n).e,(c109 n).e,(c111 n).e,(c115 n).e,(c118 n).e] [] [] [] (aT n)
def c18 (n:Nat):PF Tryz.prog 18 [.i .i64] (.tp [.i .i64,.i .i64]):=aB Tryz.func18 Tryz.call18 [(c54 n).e,(c55 n).e] [] [] [] (nq n)
def c121 (n:Nat):PF Tryz.prog 121 [.ag q57] (.i .i64):=aB Tryz.func121 Tryz.call121 [] [] [] [] (jk n)
def c184 (n:Nat):PF Tryz.prog 184 [.i .i8] (.b):=aB Tryz.func184 Tryz.call184 [] [] [] [] (jO n)
def c125 (n:Nat):PF Tryz.prog 125 [.i .i8,.i .i8] (.i .i64):=aB Tryz.func125 Tryz.call125 [(c184 n).e] [] [] [] (iz n)
def c185 (n:Nat):PF Tryz.prog 185 [.i .i64] (.b):=aB Tryz.func185 Tryz.call185 [] [] [] [] (gn n)
def c126 (n:Nat):PF Tryz.prog 126 [.i .i64,.i .i64] (.i .i64):=aB Tryz.func126 Tryz.call126 [(c185 n).e] [] [] [] (eX n)
def JB (n:Nat):LP Tryz.prog Tryz.f124.ntmps:=cb [] [] 0 (sb (acM [] [] Tryz.f124) 0) false ⟨[(3,.i .i64),(6,.ws 0),(7,.i .i64),(8,.i .i64)],q58,1,1,1,1⟩ [] [⟨.ret,⟨[(2,.i .i64)],[],1,1,1,1⟩⟩,⟨.exit 0,⟨[(3,.i .i64)],[],1,1,1,1⟩⟩] (nz n) n
def c124 (n:Nat):FF Tryz.prog 124 [.ws 0] q63 1 1 [⟨.i .i64,[],[],false⟩]:=funC Tryz.func124 Tryz.call124 [] [JB n] [] [] [0] (ki n)
def c62 (n:Nat):PF Tryz.prog 62 [.ag q57,.ag q57] (.i .i64):=aB Tryz.func62 Tryz.call62 [(c125 n).e,(c126 n).e,(c124 n).e] [] [] [] (cR n)
def c56 (n:Nat):PF Tryz.prog 56 [.ag q28] (.i .i64):=aB Tryz.func56 Tryz.call56 [(c121 n).e,(c62 n).e] [] [] [] (ji n)
def c19 (n:Nat):PF Tryz.prog 19 [.ag q28] (.tp [.i .i64,.i .i64]):=aB Tryz.func19 Tryz.call19 [(c56 n).e,(c57 n).e,(c58 n)] [] [] [] (nG n)
def c61 (n:Nat):PF Tryz.prog 61 [.ag q28,.ag q28] (.b):=aB Tryz.func61 Tryz.call61 [(c56 n).e] [] [] [] (oO n)
def c21 (n:Nat):PF Tryz.prog 21 [.ag q28,.ag q28] (.b):=aB Tryz.func21 Tryz.call21 [(c61 n).e,(c62 n).e] [] [] [] (jn n)
def c63 (n:Nat):PF Tryz.prog 63 [.ag q57,.i .i64] (.tp [.ag q57,.i .i64]):=aB Tryz.func63 Tryz.call63 [(c121 n).e,(c58 n),(c127 n).e] [] [] [] (ox n)
def c22 (n:Nat):PF Tryz.prog 22 [.ag q57] (.tp [.ag q57,.i .i64]):=aB Tryz.func22 Tryz.call22 [(c63 n).e] [] [] [] (lL n)
def c143 (n:Nat):FF Tryz.prog 143 [.p 0 0] q59 1 1 [⟨.s,[],[],false⟩]:=funC Tryz.func143 Tryz.call143 [] [] [] [] [0] (cg n)
def c75 (n:Nat):FF Tryz.prog 75 [.p 0 0] q59 1 1 [⟨.tp [.i .u8,.b],[],[],false⟩]:=funC Tryz.func75 Tryz.call75 [(c143 n).e] [] [] [] [0] (be n)
def c85 (n:Nat):FF Tryz.prog 85 [.p 0 0] q59 1 1 [⟨.i .i64,[],[],false⟩]:=funC Tryz.func85 Tryz.call85 [] [] [] [] [0] (aZ n)
def c146 (n:Nat):FF Tryz.prog 146 [.p 0 0,.i .i64,.i .i64] q59 1 1 [⟨.it 131 (.ag [.i .i64,.i .i64]),[],[],true⟩]:=funC Tryz.func146 Tryz.call146 [] [] [] [] [0] (aR n)
def c77 (n:Nat):FF Tryz.prog 77 [.p 0 0,.s] q59 0 1 [⟨.it 131 (.ag [.i .i64,.i .i64]),q36,[],true⟩,⟨.i .u8,q36,[],false⟩]:=funC Tryz.func77 Tryz.call77 [(c75 n).e,(c85 n).e,(c146 n).e,(c145 n).e] [] [] [] [0] (dc n)
def c162 (n:Nat):PF Tryz.prog 162 [.i .u8] (.tp [.s,.s]):=aB Tryz.func162 Tryz.call162 [] [] [] [] (ej n)
def c232 (n:Nat):PF Tryz.prog 232 [.s,.s] (.b):=aB Tryz.func232 Tryz.call232 [] [] [] [] (fq n)
def c196 (n:Nat):PF Tryz.prog 196 [.s,.s] (.b):=aB Tryz.func196 Tryz.call196 [(c232 n).e] [] [] [] (jY n)
def c148 (n:Nat):FF Tryz.prog 148 [.p 0 0,.s] q59 1 1 [⟨.b,[],[],false⟩]:=funC Tryz.func148 Tryz.call148 [(c143 n).e,(c196 n).e] [] [] [] [0] (eZ n)
def c84 (n:Nat):FF Tryz.prog 84 [.p 0 0,.s] q59 0 1 [⟨.b,q36,[],false⟩]:=funC Tryz.func84 Tryz.call84 [(c148 n).e] [] [] [] [0] (aD n)
def c35 (n:Nat):PF Tryz.prog 35 [] (.ag [.s,.s,.s,.s]):=aB Tryz.func35 Tryz.call35 [] [] [] [] (nk n)
def Jo (n:Nat):LP Tryz.prog Tryz.f144.ntmps:=cb [] [] 0 (sb (acM [] [] Tryz.f144) 0) false ⟨[(0,.sl 0 0 4 (some (.k 4))),(1,.s),(7,.i .i64),(8,.i .i64)],[(0,.cells [.s,.s,.s,.s])],1,1,1,1⟩ [] q71 (ef n) n
def c144 (n:Nat):FF Tryz.prog 144 [.sl 0 0 4 (some (.k 4)),.s] [.cells [.s,.s,.s,.s]] 1 1 [⟨.i .i64,[],[],false⟩]:=funC Tryz.func144 Tryz.call144 [] [Jo n] [] [] [0] (fg n)
def c76 (n:Nat):PF Tryz.prog 76 [.i .u8] (.tp [.i .u8,.b]):=aB Tryz.func76 Tryz.call76 [(c35 n).e,(c144 n).e] [] [] [] (za n)
def c74 (n:Nat):FF Tryz.prog 74 [.p 0 0] [.cells [.p 1 0],.cells q20] 1 2 [⟨.it 131 (.ag [.i .i64,.i .i64]),q69,[],true⟩,⟨.i .u8,q69,[],false⟩]:=funC Tryz.func74 Tryz.call74 [(c75 n).e,(c76 n).e,(c77 n).e] [] [] [] [0,1] (cr n)
def c78E (n:Nat):List (FE Tryz.prog):=[(c85 n).e,(c75 n).e,(c145 n).e,(c146 n).e]
def J3 (n:Nat):LP Tryz.prog Tryz.f78.ntmps:=cb (c78E n) [] 0 (sb (acM [] [] Tryz.f78) 0) false ⟨[(0,.p 0 0),(1,.s),(2,.i .i64),(3,.i .i64),(9,.i .i64),(10,.i .u8),(11,.b)],q36,1,1,0,1⟩ [] [⟨.exit 0,⟨[(0,.p 0 0),(2,.i .i64),(9,.i .i64)],q36,1,1,0,1⟩⟩] (gA n) n
def c78 (n:Nat):FF Tryz.prog 78 [.p 0 0,.s,.i .i64,.i .i64] q59 0 1 [⟨.it 131 (.ag [.i .i64,.i .i64]),q36,[],true⟩,⟨.s,q36,[],false⟩]:=funC Tryz.func78 Tryz.call78 (c78E n) [J3 n] [] [] [0] (cS n)
def c147 (n:Nat):FF Tryz.prog 147 [.s,.p 0 0] [.cells [.p 1 0],.cells q20] 1 2 [⟨.i .i64,q69,[],false⟩,⟨.it 131 (.ag [.i .i64,.i .i64]),q69,[],true⟩]:=funC Tryz.func147 Tryz.call147 [(c84 n).e,(c77 n).e,(c78 n).e,(c52 n)] [] [] [] [0,1] (fL n)
def c81 (n:Nat):FF Tryz.prog 81 [.p 0 0] q59 0 1 [⟨.it 131 (.ag [.i .i64,.i .i64]),q36,[],true⟩,⟨.ag q33,q36,[],false⟩]:=funC Tryz.func81 Tryz.call81 [(c84 n).e,(c77 n).e,(c78 n).e,(c147 n).e] [] [] [] [0] (mB n)
def c80 (n:Nat):FF Tryz.prog 80 q73 [.cells [.p 2 0],.cells q19,.cells q20] 1 3 [⟨.it 131 (.ag [.i .i64,.i .i64]),[(1,.cells q19),(2,.cells q20)],[],true⟩,⟨.tp [],[(1,.cells q19),(2,.cells q20)],[],false⟩]:=funC Tryz.func80 Tryz.call80 [(c81 n).e] [] [] [] [0,1,2] (li n)
def c37 (n:Nat):FF Tryz.prog 37 [.i .i64,.p 2 0,.p 0 0,.p 1 0] [.ints .u8 3,.ints .u8 3,.cells [.i .u8]] 2 3 [⟨.i .u8,[(2,.cells [.i .u8])],[],false⟩]:=funC Tryz.func37 Tryz.call37 [] [] [] [] [2,0,1] (mF n)
def c9E (n:Nat):List (FE Tryz.prog):=[(c36 n).e,(c37 n).e]
def c9l1 (n:Nat):LP Tryz.prog Tryz.f9.ntmps:=cb (c9E n) [] 1 (sb (acM [0] [] Tryz.f9) 1) false ⟨[(6,.p 2 0),(12,.fn 37 [.p 5 0,.p 1 0,.p 0 0]),(13,.p 6 0),(14,.i .i64)],[(0,.ints .u8 3),(1,.ints .u8 3),(2,.ints .u8 3),(5,.cells [.i .u8]),(6,.ints .u8 3)],7,0,0,0⟩ [] [⟨.exit 2,⟨[(6,.p 2 0),(13,.p 6 0)],[(2,.ints .u8 3),(6,.ints .u8 3)],7,0,0,0⟩⟩] (lr n) n
def c9 (n:Nat):PF Tryz.prog 9 [.ai .u8 3,.ai .u8 3,.i .i64] (.tp [.ai .u8 3,.i .i64]):=aB Tryz.func9 Tryz.call9 (c9E n) [c9l1 n] [0] [] (fS n)
def c79 (n:Nat):FF Tryz.prog 79 [.p 0 0] [.cells [.fn 1000078 [.p 1 0]],.cells q20] 1 2 [⟨.it 131 (.ag [.i .i64,.i .i64]),q69,[],true⟩,⟨.s,q69,[],false⟩]:=funC Tryz.func79 Tryz.call79 [(c78 n).e] [] [] [] [0,1] (iC n)
def c82 (n:Nat):FF Tryz.prog 82 [.p 0 0,.p 2 0] q64 2 4 [⟨.it 131 (.ag [.i .i64,.i .i64]),q62,[],true⟩,⟨.tp [],q62,[],false⟩]:=funC Tryz.func82 Tryz.call82 [(c79 n).e] [] [] [] [0,2,1,3] (lh n)
def c83 (n:Nat):FF Tryz.prog 83 [.p 0 0,.p 2 0] q64 2 4 [⟨.it 131 (.ag [.i .i64,.i .i64]),q62,[],true⟩,⟨.tp [],q62,[],false⟩]:=funC Tryz.func83 Tryz.call83 [(c79 n).e] [] [] [] [0,2,1,3] (kZ n)
def c40 (n:Nat):FF Tryz.prog 40 [.p 0 0] q59 0 1 [⟨.it 131 (.ag [.i .i64,.i .i64]),q36,[],true⟩,⟨.tp [.ag q19,.ai .i64 3],q36,[],false⟩]:=funC Tryz.func40 Tryz.call40 [(c74 n).e,(c85 n).e,(c80 n).e,(c9 n).e,(c84 n).e,(c82 n).e,(c83 n).e] [] [0] [] [0] (mA n)
def c197 (n:Nat):FF Tryz.prog 197 [.p 0 0] q59 0 1 [⟨.it 131 (.ag [.i .i64,.i .i64]),q36,[],true⟩,⟨.tp [.ag q19,.i .i64],q36,[],false⟩]:=funC Tryz.func197 Tryz.call197 [(c40 n).e,(c50 n).e,(c146 n).e] [] [] [] [0] (iV n)
def Jc (n:Nat):List (FE Tryz.prog):=[(c84 n).e,(c143 n).e,(c85 n).e,(c146 n).e]
def IB (n:Nat):LP Tryz.prog Tryz.f152.ntmps:=cb (Jc n) [] 0 (sb (acM [] [] Tryz.f152) 0) false ⟨[(0,.p 0 0),(1,.s),(4,.i .i64),(5,.s)],q36,1,1,0,1⟩ [] [⟨.exit 0,⟨[(0,.p 0 0),(4,.i .i64)],q36,1,1,0,1⟩⟩] (gC n) n
def c152 (n:Nat):FF Tryz.prog 152 [.p 0 0,.s] q59 0 1 [⟨.tp [],q36,[],false⟩,⟨.it 131 (.ag [.i .i64,.i .i64]),q36,[],true⟩]:=funC Tryz.func152 Tryz.call152 (Jc n) [IB n] [] [] [0] (dU n)
def c198 (n:Nat):FF Tryz.prog 198 [.ws 0] q51 1 1 [⟨.rs 21 0 0 .q (some .q),[],[],false⟩]:=funC Tryz.func198 Tryz.call198 [] [] [] [] [0] (dX n)
def c155 (n:Nat):FF Tryz.prog 155 q78 q51 1 1 [⟨.b,[],[],false⟩]:=funC Tryz.func155 Tryz.call155 [] [] [] [] [0] (my n)
def c200 (n:Nat):PF Tryz.prog 200 [.ag q48] (.i .i64):=aB Tryz.func200 Tryz.call200 [(c50 n).e,(c51 n).e] [] [] [] (io n)
def c156 (n:Nat):PF Tryz.prog 156 [.ag q48,.ag q48] (.i .i64):=aB Tryz.func156 Tryz.call156 [(c200 n).e,(c17 n).e,(c62 n).e] [] [0] [] (jo n)
def c238 (n:Nat):FF Tryz.prog 238 [.p 0 0] [.cells q18] 1 1 [⟨.b,[],[],false⟩]:=funC Tryz.func238 Tryz.call238 [] [] [] [] [0] (o9 n)
def c242 (n:Nat):PF Tryz.prog 242 [.ag q22] (.b):=aB Tryz.func242 Tryz.call242 [(c95 n).e] [] [] [] (mP n)
def c243 (n:Nat):PF Tryz.prog 243 [.ag q22] (.b):=aB Tryz.func243 Tryz.call243 [(c50 n).e,(c242 n).e,(c23 n).e] [] [] [] (kz n)
def c240 (n:Nat):PF Tryz.prog 240 [.ag q22,.ag q22] (.b):=aB Tryz.func240 Tryz.call240 [(c243 n).e,(c23 n).e,(c17 n).e,(c62 n).e] [] [] [] (oi n)
def c239 (n:Nat):FF Tryz.prog 239 [.p 0 0] [.cells q18] 1 1 [⟨.b,[],[],false⟩]:=funC Tryz.func239 Tryz.call239 [(c240 n).e] [] [] [] [0] (pj n)
def c241 (n:Nat):FF Tryz.prog 241 q73 [.cells [.i .u8],.cells q18] 2 2 [⟨.b,[],[],false⟩]:=funC Tryz.func241 Tryz.call241 [(c242 n).e] [] [] [] [0,1] (pu n)
def c201 (n:Nat):FF Tryz.prog 201 [.sl 0 0 3 (some (.k 3))] [.cells [.i .i64,.fn 238 [.p 1 0],.i .i64,.fn 239 [.p 1 0],.i .i64,.fn 241 [.p 2 0,.p 1 0]],.cells q18,.cells [.i .u8]] 3 3 [⟨.i .i64,[],[],false⟩]:=funC Tryz.func201 Tryz.call201 [(c238 n).e,(c239 n).e,(c241 n).e] [] [0] [] [0,1,2] (fw n)
def c202 (n:Nat):PF Tryz.prog 202 [.ag q18,.i .u8] (.i .i64):=aB Tryz.func202 Tryz.call202 [(c50 n).e,(c201 n).e] [] [] [] (jg n)
def c203 (n:Nat):FF Tryz.prog 203 q73 [.cells q18,.cells q39,.rows q11] 3 3 [⟨.b,[],[],false⟩]:=funC Tryz.func203 Tryz.call203 [(c202 n).e] [] [] [] [0,1,2] (lP n)
def c205 (n:Nat):PF Tryz.prog 205 [.ag q18] (.b):=aB Tryz.func205 Tryz.call205 [(c243 n).e] [] [] [] (lO n)
def c204 (n:Nat):FF Tryz.prog 204 [.p 0 0,.p 1 0,.p 2 0] [.cells [.i .u8,.bd,.b,.s,.i .i64,.i .i64,.s,.s,.i .u8,.i .u8,.i .u8,.i .u8,.bd,.b,.s,.i .i64,.i .i64,.s,.s,.i .u8,.i .u8,.i .u8,.i .u8,.bd,.b,.s,.i .i64,.i .i64,.s,.s,.i .u8,.i .u8,.i .u8,.rs 21 3 0 .q (some .q),.b,.b],.cells [.i .i64],.cells q18,.rows q11] 4 4 [⟨.b,[],[],false⟩]:=funC Tryz.func204 Tryz.call204 [(c205 n).e] [] [] [] [0,1,2,3] (lD n)
def c206 (n:Nat):FF Tryz.prog 206 [.p 0 0,.p 1 0,.p 2 0,.p 3 0] [.cells [.i .u8,.bd,.b,.s,.i .i64,.i .i64,.s,.s,.i .u8,.i .u8,.i .u8,.i .u8,.bd,.b,.s,.i .i64,.i .i64,.s,.s,.i .u8,.i .u8,.i .u8,.i .u8,.bd,.b,.s,.i .i64,.i .i64,.s,.s,.i .u8,.i .u8,.i .u8,.rs 21 4 0 .q (some .q),.b,.b],.cells [.i .i64],.cells [.i .i64],.cells q18,.rows q11] 5 5 [⟨.b,[],[],false⟩]:=funC Tryz.func206 Tryz.call206 [(c205 n).e] [] [] [] [0,1,2,3,4] (lG n)
def c207 (n:Nat):FF Tryz.prog 207 q73 [.cells q39,.cells [.i .i64],.rows q11] 3 3 [⟨.b,[],[],false⟩]:=funC Tryz.func207 Tryz.call207 [] [] [] [] [0,1,2] (lJ n)
def IA (n:Nat):FF Tryz.prog 201 [.sl 0 0 4 (some (.k 4))] [.cells q50,.cells q18,.cells [.i .u8,.bd,.b,.s,.i .i64,.i .i64,.s,.s,.i .u8,.i .u8,.i .u8,.i .u8,.bd,.b,.s,.i .i64,.i .i64,.s,.s,.i .u8,.i .u8,.i .u8,.i .u8,.bd,.b,.s,.i .i64,.i .i64,.s,.s,.i .u8,.i .u8,.i .u8,.rs 21 5 0 .q (some .q),.b,.b],.cells [.i .i64],.cells [.i .i64],.rows q11] 6 6 [⟨.i .i64,[],[],false⟩]:=funC Tryz.func201 Tryz.call201 [(c203 n).e,(c204 n).e,(c206 n).e,(c207 n).e] [] [0] [] [0,1,2,3,4,5] (k7 n)
def I6 (n:Nat):List (FE Tryz.prog):=[(c202 n).e,(IA n).e]
def Jb (n:Nat):LP Tryz.prog Tryz.f157.ntmps:=cb (I6 n) [] 0 (sb (acM [] [] Tryz.f157) 0) true ⟨[(1,.p 1 0),(4,.p 2 0),(13,.rs 21 0 0 .q (some .q)),(14,.i .i64),(15,.i .i64)],[(0,.rows q11),(1,.cells q13),(2,.cells [.i .i64])],3,1,1,1⟩ [] q68 (k9 n) n
def c157 (n:Nat):FF Tryz.prog 157 q78 q51 1 1 [⟨.tp [.i .i64,.i .i64],[],[],false⟩]:=funC Tryz.func157 Tryz.call157 (I6 n) [Jb n] [] [] [0] (nY n)
def c89 (n:Nat):FF Tryz.prog 89 q78 q51 1 1 [⟨.tp [.i .i64,.i .i64],[],[],false⟩]:=funC Tryz.func89 Tryz.call89 [(c155 n).e,(c50 n).e,(c156 n).e,(c157 n).e] [] [] [] [0] (kE n)
def Bd (n:Nat):List (FE Tryz.prog):=[(c77 n).e,(c162 n).e,(c84 n).e,(c85 n).e,(c146 n).e,(c197 n).e,(c148 n).e,(c152 n).e,(c198 n).e,(c89 n).e]
def IV (n:Nat):LP Tryz.prog Tryz.f149.ntmps:=pB (Bd n) [] 1003 (sb (acM [] [3,16,17] Tryz.f149) 1003) true ⟨[(0,.p 0 0),(2,.p 1 0),(3,.p 2 0),(15,.b)],[(0,.cells q20),(1,.cells q29),(2,.cells [.ik .u8 3,.bk false,.bk false,.sk [],.ik .i64 0,.ik .i64 0,.sk [],.sk [],.ik .u8 0,.ik .u8 0,.ik .u8 0,.ik .u8 0,.bk false,.bk false,.sk [],.ik .i64 0,.ik .i64 0,.sk [],.sk [],.ik .u8 0,.ik .u8 0,.ik .u8 0,.ik .u8 0,.bk false,.bk false,.sk [],.ik .i64 0,.ik .i64 0,.sk [],.sk [],.ik .u8 0,.ik .u8 0,.ik .u8 0,.ws 4,.bk false,.bk false]),(3,.rows q11),(4,.rows q11)],5,1,0,1⟩ [⟨.nrm,⟨[(0,.p 0 0),(2,.p 1 0),(3,.p 2 0)],[(0,.cells q20),(1,.cells q29),(2,.cells [.i .u8,.bk false,.bk false,.sk [],.ik .i64 0,.ik .i64 0,.sk [],.sk [],.ik .u8 0,.ik .u8 0,.ik .u8 0,.ik .u8 0,.bk false,.bk false,.sk [],.ik .i64 0,.ik .i64 0,.sk [],.sk [],.ik .u8 0,.ik .u8 0,.ik .u8 0,.ik .u8 0,.bk false,.bk false,.sk [],.ik .i64 0,.ik .i64 0,.sk [],.sk [],.ik .u8 0,.ik .u8 0,.ik .u8 0,.ws 4,.bk false,.bk false]),(3,.rows q11),(4,.rows q11)],5,1,0,1⟩⟩] (nu n)
def Ic (n:Nat):LP Tryz.prog Tryz.f149.ntmps:=pB (Bd n) [] 1016 (sb (sb (acM [] [3,16,17] Tryz.f149) 0).body 1016) true ⟨q67,q16,7,1,0,1⟩ [⟨.nrm,q60⟩] (mD n)
def HB (n:Nat):LP Tryz.prog Tryz.f149.ntmps:=pB (Bd n) [] 1017 (sb (sb (acM [] [3,16,17] Tryz.f149) 0).body 1017) true q60 [⟨.pan (.it 131 (.ag [.i .i64,.i .i64])),⟨[],q36,1,1,0,1⟩⟩,⟨.nrm,⟨q67,[(0,.cells q20),(1,.cells q30),(2,.cells q31),(3,.rows [.i .i64]),(4,.cells q18),(5,.rows q11),(6,.rows q11)],7,1,0,1⟩⟩] (mu n)
def IG (n:Nat):LP Tryz.prog Tryz.f149.ntmps:=cb (Bd n) [Ic n,HB n] 0 (sb (acM [] [3,16,17] Tryz.f149) 0) true ⟨q76,[(0,.cells q20),(1,.cells [.ik .u8 0,.bk false,.bk false,.sk [],.ik .i64 0,.ik .i64 0,.sk [],.sk [],.ik .u8 0,.ik .u8 0,.ik .u8 0,.ik .u8 0,.bk false,.bk false,.sk [],.ik .i64 0,.ik .i64 0,.sk [],.sk [],.ik .u8 0,.ik .u8 0,.ik .u8 0,.ik .u8 0,.bk false,.bk false,.sk [],.ik .i64 0,.ik .i64 0,.sk [],.sk [],.ik .u8 0,.ik .u8 0,.ik .u8 0,.ws 4,.bk false,.bk false]),(2,.cells [.i .u8,.bk false,.bk false,.sk [],.ik .i64 0,.ik .i64 0,.sk [],.sk [],.ik .u8 0,.ik .u8 0,.ik .u8 0,.ik .u8 0,.bk false,.bk false,.sk [],.ik .i64 0,.ik .i64 0,.sk [],.sk [],.ik .u8 0,.ik .u8 0,.ik .u8 0,.ik .u8 0,.bk false,.bk false,.sk [],.ik .i64 0,.ik .i64 0,.sk [],.sk [],.ik .u8 0,.ik .u8 0,.ik .u8 0,.ws 5,.b,.bk false]),(3,.rows [.i .i64]),(4,.rows q11),(5,.rows q11)],6,1,0,1⟩ [.nilT 6 1000 [.i .i64]] [⟨.pan (.it 131 (.ag [.i .i64,.i .i64])),⟨[],q36,1,1,0,1⟩⟩,⟨.exit 0,⟨q76,[(0,.cells q20),(1,.cells q45),(2,.cells q46),(3,.rows [.i .i64]),(4,.rows q11),(5,.rows q11)],6,1,0,1⟩⟩] (n7 n) n
def c149 (n:Nat):FF Tryz.prog 149 [.p 0 0] q59 0 1 [⟨.it 131 (.ag [.i .i64,.i .i64]),q36,[],true⟩,⟨.ag [.i .u8,.bd,.b,.s,.i .i64,.i .i64,.s,.s,.i .u8,.i .u8,.i .u8,.i .u8,.bd,.b,.s,.i .i64,.i .i64,.s,.s,.i .u8,.i .u8,.i .u8,.i .u8,.bd,.b,.s,.i .i64,.i .i64,.s,.s,.i .u8,.i .u8,.i .u8,.rs 21 1 0 .q (some .q),.b,.b],[(0,.cells q20),(1,.rows q11)],[1],false⟩]:=funC Tryz.func149 Tryz.call149 (Bd n) [IV n,IG n] [] [3,16,17] [0] (oy n)
def c150 (n:Nat):FF Tryz.prog 150 [.p 2 0,.i .i64] [.cells q20,.rows q11,.cells q37] 2 3 [⟨.tp [],[(2,.cells q37)],[],false⟩]:=funC Tryz.func150 Tryz.call150 [] [] [] [] [2,0,1] (eu n)
def Gl (n:Nat):FF Tryz.prog 150 [.p 2 0,.i .i64] [.cells q20,.rows q11,.cells q40] 2 3 [⟨.tp [],[(2,.cells q40)],[],false⟩]:=funC Tryz.func150 Tryz.call150 [] [] [] [] [2,0,1] (cu n)
def AE (_n:Nat):Ent:=Gg 233
theorem zL (n:Nat):cD Tryz.prog (AE n):=BE Tryz.call233 λs c w h1 h2 h3=>Tryz.strings_TrimRight_laid s c w h1 h2 h3
def c233 (n:Nat):FE Tryz.prog:=libF (zL n)
def IR (n:Nat):PF Tryz.prog 232 [.s,.sk [45]] (.b):=aB Tryz.func232 Tryz.call232 [] [] [] [] (eF n)
def c254 (n:Nat):PF Tryz.prog 254 [.s,.sk [45]] (.s):=aB Tryz.func254 Tryz.call254 [(IR n).e] [] [] [] (fe n)
def c234 (n:Nat):PF Tryz.prog 234 [.s,.sk [45]] (.s):=aB Tryz.func234 Tryz.call234 [(c254 n).e] [] [] [] (jN n)
end
end Go.Sh
