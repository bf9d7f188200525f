/- Each function of the program computes its plain function: the certificates.
   Conditions: none. Printed by the bench tool gen.py. -/
import Derived.Test.YtaogbalpingjhaaGreatDoorAbsPat
import Derived.Test.YtaogbalpingjhaaGreatDoorHGa
import Derived.Test.YtaogbalpingjhaaGreatDoorHGb
import Derived.Test.YtaogbalpingjhaaGreatDoorHGe
set_option linter.unusedVariables false
set_option linter.unusedSimpArgs false
set_option maxRecDepth 100000
set_option maxHeartbeats 4000000
namespace Go.Sh
open Go.Abs Go.Proofs
noncomputable section
abbrev q21:List PV:=[.s,.i .i64]
abbrev q32:List PV:=[.b,.b,.s,.i .i64,.i .i64]
abbrev q34:List PV:=[.i .u8,.b,.i .u16,.i .u8,.i .u8,.i .u8,.i .u8,.i .u8,.i .u8,.i .u8]
abbrev q19:List PV:=[.b,.b,.s,.i .i64,.i .i64,.s,.s,.i .u8,.i .u8,.i .u8]
abbrev q66:List PV:=[.ag q19]
abbrev q74:List (Nat×PV):=[(0,.s),(7,.s),(8,.i .i64),(9,.i .i64),(12,.i .i64)]
def c65 (n:Nat):PF Tryz.prog 65 [.i .u16] (.s):=aK Tryz.func65 Tryz.call65 [] [] [] [] (jm n)
def Ro (n:Nat):LP Tryz.prog Tryz.f129.ntmps:=dn [] [] 0 (sb (acM [] [] Tryz.f129) 0) false ⟨[(0,.s),(1,.i .u8),(2,.i .u8),(7,.i .i64),(8,.i .i64)],[],0,0,0,0⟩ [] [⟨.exit 0,⟨[(7,.i .i64)],[],0,0,0,0⟩⟩] (fG n) n
def c129 (n:Nat):PF Tryz.prog 129 [.s,.i .u8,.i .u8] (.i .i64):=aK Tryz.func129 Tryz.call129 [] [Ro n] [] [] (gA n)
def Ry (n:Nat):LP Tryz.prog Tryz.f130.ntmps:=dn [] [] 0 (sb (acM [] [] Tryz.f130) 0) false ⟨[(0,.s),(1,.i .i64),(6,.i .i64),(7,.i .i64)],[],0,0,0,0⟩ [] [⟨.ret,⟨[(4,.i .i64),(5,.i .i64)],[],0,0,0,0⟩⟩,⟨.exit 0,⟨[(6,.i .i64)],[],0,0,0,0⟩⟩] (dS n) n
def c130 (n:Nat):PF Tryz.prog 130 q21 (.tp [.i .i64,.i .i64]):=aK Tryz.func130 Tryz.call130 [] [Ry n] [] [] (dK n)
def c66 (n:Nat):PF Tryz.prog 66 [.ag q32] (.i .i64):=aK Tryz.func66 Tryz.call66 [(c129 n).e,(c130 n).e] [] [] [] (cr n)
def c24E (n:Nat):List (FE Tryz.prog):=[(c65 n).e,(c66 n).e]
def Td (n:Nat):LP Tryz.prog Tryz.f24.ntmps:=dn (c24E n) [] 0 (sb (acM [] [] Tryz.f24) 0) false ⟨[(2,.p 1 0),(3,.p 50 0),(4,.i .i64),(5,.i .i64),(6,.s),(7,.i .i64)],[(1,.cells q32),(50,.cells q32)],162,0,0,0⟩ [] [⟨.exit 1,⟨[(2,.p 1 0),(3,.p 50 0),(6,.s)],[(1,.cells q32),(50,.cells q32)],162,0,0,0⟩⟩] (eW n) n
def c24 (n:Nat):PF Tryz.prog 24 [.ag [.i .u8,.b,.i .u16,.i .u8,.i .u8]] (.ag q32):=aK Tryz.func24 Tryz.call24 (c24E n) [Td n] [] [] (gS n)
def c67 (n:Nat):PF Tryz.prog 67 [.i .i64] (.s):=aK Tryz.func67 Tryz.call67 [] [] [] [] (aP n)
def c25 (n:Nat):PF Tryz.prog 25 [.ag q34] (.s):=aK Tryz.func25 Tryz.call25 [(c67 n).e] [] [] [] (eP n)
def c26E (n:Nat):List (FE Tryz.prog):=[(c67 n).e]
def SV (n:Nat):LP Tryz.prog Tryz.f26.ntmps:=dn (c26E n) [] 0 (sb (acM [] [] Tryz.f26) 0) false ⟨[(1,.p 0 0),(3,.i .i64)],[(0,.cells q19)],1,0,0,0⟩ [] [⟨.ret,⟨[(2,.i .i64)],[],1,0,0,0⟩⟩,⟨.exit 0,⟨[],[],1,0,0,0⟩⟩] (bq n) n
def c26 (n:Nat):PF Tryz.prog 26 q66 (.i .i64):=aK Tryz.func26 Tryz.call26 (c26E n) [SV n] [] [] (fL n)
def c27 (n:Nat):PF Tryz.prog 27 [.ag q34,.s] (.s):=aK Tryz.func27 Tryz.call27 [(c67 n).e] [] [] [] (gx n)
def c28 (n:Nat):PF Tryz.prog 28 q66 (.i .i64):=aK Tryz.func28 Tryz.call28 [] [] [] [] (ar n)
def c5 (n:Nat):PF Tryz.prog 5 [.ag q34] (.ag q19):=aK Tryz.func5 Tryz.call5 [(c24 n).e,(c25 n).e,(c26 n).e,(c27 n).e,(c28 n).e] [] [0] [] (fK n)
def c6l0 (n:Nat):LP Tryz.prog Tryz.f6.ntmps:=dn [] [] 0 (sb (acM [] [] Tryz.f6) 0) false ⟨[(3,.i .i64),(10,.ag [.s,.s]),(11,.i .i64)],[],1,0,0,0⟩ [] [⟨.exit 0,⟨[(3,.i .i64)],[],1,0,0,0⟩⟩] (bB n) n
def c6 (n:Nat):PF Tryz.prog 6 q66 (.i .i64):=aK Tryz.func6 Tryz.call6 [] [c6l0 n] [] [] (aH n)
def c231 (_n:Nat):FE Tryz.prog:=libF (Jn Tryz.func231 (by kernel_rfl) (by kernel_rfl) (by kernel_rfl) (by kernel_rfl))
def c195 (n:Nat):PF Tryz.prog 195 [.s,.i .u8] (.i .i64):=aK Tryz.func195 Tryz.call195 [(c231 n)] [] [] [] (cn n)
def c145 (n:Nat):PF Tryz.prog 145 [.s,.i .u8] (.i .i64):=aK Tryz.func145 Tryz.call145 [(c195 n).e] [] [] [] (cM n)
def c221 (n:Nat):PF Tryz.prog 221 [.i .i32] (.b):=aK Tryz.func221 Tryz.call221 [] [] [] [] (de n)
def H9 (n:Nat):List (FE Tryz.prog):=[(c145 n).e,(c221 n).e]
def Qp (n:Nat):LP Tryz.prog Tryz.f187.ntmps:=dn (H9 n) [] 0 (sb (acM [] [] Tryz.f187) 0) false ⟨[(175,.p 0 0)],[(0,.iter)],1,0,0,0⟩ [] [⟨.ret,⟨[(4,.i .i64)],[],1,0,0,0⟩⟩,⟨.exit 9,⟨[],[],1,0,0,0⟩⟩] (cX n) n
def Ri (n:Nat):LP Tryz.prog Tryz.f187.ntmps:=dn (H9 n) [] 2 (sb (sb (acM [] [] Tryz.f187) 1).body 2) false ⟨q74,[],128,0,0,0⟩ [] [⟨.exit 3,⟨[(8,.i .i64),(9,.i .i64)],[],128,0,0,0⟩⟩] (kS n) n
def Ol (n:Nat):LP Tryz.prog Tryz.f187.ntmps:=dn (H9 n) [] 2 (sb (sb (acM [] [] Tryz.f187) 1).body 2) false ⟨q74,[],56,0,0,0⟩ [] [⟨.exit 3,⟨[(8,.i .i64),(9,.i .i64)],[],56,0,0,0⟩⟩] (kA n) n
def R1 (n:Nat):LP Tryz.prog Tryz.f187.ntmps:=dn (H9 n) [altL (Ri n) (Ol n) rfl] 1 (sb (acM [] [] Tryz.f187) 1) false ⟨[(0,.s),(7,.s),(8,.i .i64),(9,.i .i64)],[],0,0,0,0⟩ [] [⟨.ret,⟨[(4,.i .i64)],[],0,0,0,0⟩⟩,⟨.exit 1,⟨[],[],0,0,0,0⟩⟩] (cV n) n
def c187 (n:Nat):PF Tryz.prog 187 [.s,.i .i32] (.i .i64):=aK Tryz.func187 Tryz.call187 (H9 n) [Qp n,R1 n,noL 3 (sb (acM [] [] Tryz.f187) 3)] [] [] (dq n)
def c133 (n:Nat):PF Tryz.prog 133 [.s,.i .i32] (.b):=aK Tryz.func133 Tryz.call133 [(c187 n).e] [] [] [] (cU n)
def c132 (n:Nat):FF Tryz.prog 132 [.i .i32,.p 0 0] [.cells [.s]] 1 1 [⟨.b,[],[],false⟩]:=funC Tryz.func132 Tryz.call132 [(c133 n).e] [] [] [] [0] (iH n)
def RR (n:Nat):List (FE Tryz.prog):=[(c132 n).e]
def RE (n:Nat):LP Tryz.prog Tryz.f186.ntmps:=dn (RR n) [] 0 (sb (acM [] [] Tryz.f186) 0) false ⟨[(1,.fn 132 [.p 0 0]),(2,.b),(10,.p 1 0)],[(0,.cells [.s]),(1,.iter)],2,1,1,1⟩ [] [⟨.ret,⟨[(6,.i .i64)],[],2,1,1,1⟩⟩,⟨.exit 0,⟨[],[],2,1,1,1⟩⟩] (ca n) n
def c186 (n:Nat):FF Tryz.prog 186 [.s,.fn 132 [.p 0 0],.b] [.cells [.s]] 1 1 [⟨.i .i64,[],[],false⟩]:=funC Tryz.func186 Tryz.call186 (RR n) [RE n] [] [] [0] (jU n)
def c131 (n:Nat):FF Tryz.prog 131 [.s,.fn 132 [.p 0 0]] [.cells [.s]] 1 1 [⟨.i .i64,[],[],false⟩]:=funC Tryz.func131 Tryz.call131 [(c186 n).e] [] [] [] [0] (jG n)
def c68 (n:Nat):PF Tryz.prog 68 [.s,.s] (.b):=aK Tryz.func68 Tryz.call68 [(c131 n).e] [] [] [] (fj n)
def Si (n:Nat):LP Tryz.prog Tryz.f135.ntmps:=dn [] [] 0 (sb (acM [] [] Tryz.f135) 0) false ⟨[(0,.s),(1,.i .u8)],[],0,0,0,0⟩ [] [⟨.exit 0,⟨[(0,.s)],[],0,0,0,0⟩⟩] (cJ n) n
def c135 (n:Nat):PF Tryz.prog 135 [.s,.i .u8] (.s):=aK Tryz.func135 Tryz.call135 [] [Si n] [] [] (eO n)
def Qz (n:Nat):LP Tryz.prog Tryz.f134.ntmps:=dn [] [] 0 (sb (acM [] [] Tryz.f134) 0) false ⟨[(0,.s),(1,.i .u8)],[],0,0,0,0⟩ [] [⟨.exit 0,⟨[(0,.s)],[],0,0,0,0⟩⟩] (dV n) n
def c134 (n:Nat):PF Tryz.prog 134 [.s,.i .u8] (.s):=aK Tryz.func134 Tryz.call134 [] [Qz n] [] [] (fB n)
def c69 (n:Nat):PF Tryz.prog 69 [.s,.sk [48]] (.s):=aK Tryz.func69 Tryz.call69 [(c135 n).e,(c134 n).e] [] [] [] (lW n)
def c216 (n:Nat):PF Tryz.prog 216 [.s,.sk [88]] (.i .i64):=aK Tryz.func216 Tryz.call216 [(c195 n).e] [noL 0 (sb (acM [] [] Tryz.f216) 0)] [] [] (gX n)
def c168 (n:Nat):PF Tryz.prog 168 [.s,.sk [88]] (.i .i64):=aK Tryz.func168 Tryz.call168 [(c216 n).e] [] [] [] (kU n)
def c102 (n:Nat):PF Tryz.prog 102 [.s,.sk [88]] (.b):=aK Tryz.func102 Tryz.call102 [(c168 n).e] [] [] [] (gq n)
def c48 (n:Nat):PF Tryz.prog 48 [.ag q32] (.b):=aK Tryz.func48 Tryz.call48 [(c102 n).e] [] [] [] (bU n)
noncomputable def IQ (_n:Nat):Ent:=JV 103
theorem FD (n:Nat):dT Tryz.prog (IQ n):=HS Tryz.call103 λs h v hv w=>(Tryz.strconv_ParseInt_10_at64_ok s h v hv w).mono λe w' ⟨h1,h2⟩=>⟨h1,h2.elim (λh=>h▸RowKit.Below.refl _ _) (λ⟨t,h⟩=>h▸nQ _ _ _)⟩
def c103 (n:Nat):FE Tryz.prog:=libF (FD n)
def Qn (n:Nat):LP Tryz.prog Tryz.f104.ntmps:=dn [] [] 0 (sb (acM [] [] Tryz.f104) 0) false ⟨[(4,.i .i64),(9,.i .i64),(10,.i .i64)],[],0,0,0,0⟩ [] [⟨.exit 0,⟨[(4,.i .i64)],[],0,0,0,0⟩⟩] (jt n) n
def c104 (n:Nat):PF Tryz.prog 104 [.i .i64] (.tp [.i .i64,.i .i64]):=aK Tryz.func104 Tryz.call104 [] [Qn n] [] [] (mI n)
def c171 (n:Nat):PF Tryz.prog 171 [.i .i64] (.i .u64):=aK Tryz.func171 Tryz.call171 [] [] [] [] (qz n)
def c170 (n:Nat):PF Tryz.prog 170 [.i .u64,.i .u64] (.tp [.i .u64,.i .u64]):=aK Tryz.func170 Tryz.call170 [] [] [] [] (jq n)
def c172 (n:Nat):PF Tryz.prog 172 [.i .u64,.b] (.tp [.i .i64,.i .i64]):=aK Tryz.func172 Tryz.call172 [] [] [] [] (pT n)
def c105 (n:Nat):PF Tryz.prog 105 [.i .i64,.i .i64] (.tp [.i .i64,.i .i64]):=aK Tryz.func105 Tryz.call105 [(c171 n).e,(c170 n).e,(c172 n).e] [] [] [] (sW n)
def c49 (n:Nat):PF Tryz.prog 49 [.ag q32] (.tp [.i .i64,.i .i64]):=aK Tryz.func49 Tryz.call49 [(c103 n),(c104 n).e,(c105 n).e] [] [] [] (dk n)
def c70 (n:Nat):PF Tryz.prog 70 [.ag q32] (.b):=aK Tryz.func70 Tryz.call70 [(c68 n).e,(c49 n).e] [] [] [] (aO n)
def c29 (n:Nat):PF Tryz.prog 29 [.ag q32] (.i .i64):=aK Tryz.func29 Tryz.call29 [(c68 n).e,(c69 n).e,(c48 n).e,(c70 n).e] [] [] [] (bu n)
theorem pure_yearforms_Check (n:Nat):∀a r,bu n a.1 a.2.1 a.2.2.1 a.2.2.2.1 a.2.2.2.2=some r->jh Tryz.prog 29 (argP [.ag q32] a) (encP (.i .i64) r):=λa r h=>(c29 n).ok a r h
end
end Go.Sh
