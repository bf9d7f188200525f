/- Each function of the program computes its plain function: the certificates.
   Conditions: none. Printed by the bench tool gen.py. -/
import Derived.Test.YtpkdacjndoiabaaGreatDoorYText
set_option linter.unusedVariables false
set_option linter.unusedSimpArgs false
set_option maxRecDepth 100000
set_option maxHeartbeats 4000000
namespace Go.Sh
open Go.Abs Go.Proofs
noncomputable section
abbrev q151:List (Nat×PB):=[(0,.rows q12),(1,.cells q14),(2,.rows [.s])]
abbrev q152:List (Nat×PB):=[(0,.rows q12),(1,.cells q18),(2,.rows [.s])]
abbrev q72:List (Nat×PB):=[(0,.ints .u8 3),(1,.ints .u8 3),(2,.ints .u8 3),(3,.ints .u8 3),(4,.ints .u8 3)]
abbrev q155:List (Nat×PV):=[(0,.s),(3,.p 0 0),(4,.i .i64),(5,.i .i64)]
abbrev q128:List (Nat×PV):=[(0,.s),(3,.p 0 0),(4,.i .i64),(5,.i .i64),(6,.p 1 0),(7,.p 2 0)]
abbrev q41:List (Nat×PB):=[(0,.cells q16),(1,.cells q13),(2,.cells q36),(3,.rows q12),(4,.rows q12)]
abbrev q68:List (Nat×PV):=[(3,.p 0 0),(4,.i .i64),(5,.i .i64),(6,.p 1 0),(7,.p 2 0),(37,.b)]
abbrev q42:List (Nat×PB):=[(0,.cells q15),(1,.cells q13),(2,.cells q36),(3,.rows q12),(4,.rows q12)]
abbrev q126:List (Nat×PV):=[(3,.p 0 0),(4,.i .i64),(5,.i .i64),(6,.p 1 0),(7,.p 2 0),(41,.b)]
abbrev q51:List (Nat×PV):=[(3,.p 0 0),(4,.i .i64),(5,.i .i64),(6,.p 1 0),(7,.p 2 0)]
abbrev q144:List PX:=[⟨.nrm,⟨q51,q41,5,0,0,0⟩⟩]
abbrev q145:List PX:=[⟨.nrm,⟨q51,q42,5,0,0,0⟩⟩]
abbrev q127:List (Nat×PV):=[(3,.p 0 0),(4,.i .i64),(5,.i .i64),(6,.p 1 0),(7,.p 2 0),(45,.b)]
abbrev q67:List (Nat×PV):=[(3,.p 0 0),(8,.s),(9,.i .i64),(10,.p 1 0),(11,.i .i64),(12,.i .i64)]
noncomputable def IK (n:Nat):Ent:=HI 76 (cn n)
theorem GM (n:Nat):gC Tryz.prog (IK n):=fS9 Tryz.call76 (GW n) (Kf n)
def c76 (n:Nat):FE Tryz.prog:=libF (GM n)
def c77 (n:Nat):PF Tryz.prog 77 [.i .u8] (.tp q38):=aK Tryz.func77 Tryz.call77 [(c124 n).e,(c125 n).e] [] [] [] (qc n)
noncomputable def JA (_n:Nat):Ent:=La 28
theorem F0 (n:Nat):gC Tryz.prog (JA n):=I2 Tryz.call28 Tryz.strings_Join_none Tryz.strings_Join
def c28 (n:Nat):FE Tryz.prog:=libF (F0 n)
def c37E (n:Nat):List (FE Tryz.prog):=[(c73 n).e,(c74 n).e,(c75 n).e,(c76 n),(c77 n).e,(c28 n)]
def Pp (n:Nat):LP Tryz.prog Tryz.f37.ntmps:=cg (c37E n) [] 0 (sb (acM [] [] Tryz.f37) 0) false ⟨[(6,.p 1 0),(7,.p 2 0),(11,.ws 3),(48,.rs 1 4 0 .q none),(49,.i .i64),(50,.i .i64)],[(1,.ints .u8 3),(2,.ints .u8 3),(3,.rows [.s]),(4,.rows [.s])],5,0,0,0⟩ [] [⟨.exit 0,⟨[(11,.ws 3)],[(3,.rows [.s])],5,0,0,0⟩⟩] (aQ n) n
def c37 (n:Nat):PF Tryz.prog 37 q97 (.tp q38):=aK Tryz.func37 Tryz.call37 (c37E n) [Pp n] [] [] (eT n)
def c15 (n:Nat):PF Tryz.prog 15 [.ag q23] (.tp q38):=aK Tryz.func15 Tryz.call15 [(c36 n).e,(c37 n).e] [] [] [] (f6 n)
def c11E (n:Nat):List (FE Tryz.prog):=[(c12 n).e,(c15 n).e,(c27 n).e,(c28 n)]
def Ql (n:Nat):LP Tryz.prog Tryz.f11.ntmps:=cg (c11E n) [] 0 (sb (acM [] [] Tryz.f11) 0) true ⟨[(1,.p 1 0),(5,.ws 2),(28,.ws 0),(29,.i .i64),(30,.i .i64)],q151,3,1,1,1⟩ [] [⟨.exit 0,⟨[(1,.p 1 0),(5,.ws 2)],q151,3,1,1,1⟩⟩] (cf n) n
def c11 (n:Nat):FF Tryz.prog 11 [.ag q14] q115 1 1 [⟨.tp q38,[],[],false⟩]:=funC Tryz.func11 Tryz.call11 (c11E n) [Ql n] [] [] [0] (mv n)
def Nf (n:Nat):FF Tryz.prog 12 [.ag q18] q115 1 1 [⟨.i .i64,[],[],false⟩]:=funC Tryz.func12 Tryz.call12 [(c29 n).e] [] [] [] [0] (eP n)
def Ko (n:Nat):List (FE Tryz.prog):=[(Nf n).e,(c15 n).e,(c27 n).e,(c28 n)]
def Mh (n:Nat):LP Tryz.prog Tryz.f11.ntmps:=cg (Ko n) [] 0 (sb (acM [] [] Tryz.f11) 0) true ⟨[(1,.p 1 0),(5,.ws 2),(28,.rs 21 0 0 .q (some .q)),(29,.i .i64),(30,.i .i64)],q152,3,1,1,1⟩ [] [⟨.exit 0,⟨[(1,.p 1 0),(5,.ws 2)],q152,3,1,1,1⟩⟩] (fh n) n
def PR (n:Nat):FF Tryz.prog 11 [.ag q18] q115 1 1 [⟨.tp q38,[],[],false⟩]:=funC Tryz.func11 Tryz.call11 (Ko n) [Mh n] [] [] [0] (na n)
def Pz (n:Nat):LP Tryz.prog Tryz.f78.ntmps:=cg [] [] 0 (sb (acM [] [] Tryz.f78) 0) false ⟨[(1,.i .i64),(2,.p 0 0),(4,.p 1 0),(5,.p 2 0),(6,.p 3 0),(7,.p 4 0),(8,.b),(9,.i .i64)],q72,5,0,0,0⟩ [] [⟨.exit 0,⟨[(1,.i .i64),(2,.p 0 0),(4,.p 1 0),(5,.p 2 0),(6,.p 3 0),(7,.p 4 0),(8,.b)],q72,5,0,0,0⟩⟩] (mQ n) n
def Qo (n:Nat):LP Tryz.prog Tryz.f78.ntmps:=cg [] [] 1 (sb (acM [] [] Tryz.f78) 1) false ⟨[(1,.i .i64),(2,.p 0 0),(4,.p 1 0),(5,.p 2 0),(6,.p 3 0),(7,.p 4 0),(10,.i .i64)],q72,5,0,0,0⟩ [] [⟨.exit 2,⟨[(4,.p 1 0),(5,.p 2 0),(6,.p 3 0),(7,.p 4 0)],[(1,.ints .u8 3),(2,.ints .u8 3),(3,.ints .u8 3),(4,.ints .u8 3)],5,0,0,0⟩⟩] (mF n) n
def c78 (n:Nat):PF Tryz.prog 78 q130 (.tp [.ai .u8 3,.ai .u8 3]):=aK Tryz.func78 Tryz.call78 [] [Pz n,Qo n] [] [] (jt n)
def c126 (n:Nat):PF Tryz.prog 126 [.i .i64] (.s):=aK Tryz.func126 Tryz.call126 [] [] [] [] (aF n)
def c80 (n:Nat):PF Tryz.prog 80 q143 (.s):=aK Tryz.func80 Tryz.call80 [(c126 n).e] [] [] [] (jZ n)
def c38 (n:Nat):PF Tryz.prog 38 q97 (.s):=aK Tryz.func38 Tryz.call38 [(c41 n).e,(c78 n).e,(c79 n).e,(c80 n).e] [] [] [] (d7 n)
def c16 (n:Nat):PF Tryz.prog 16 [.ag q23] (.s):=aK Tryz.func16 Tryz.call16 [(c38 n).e] [] [] [] (cj n)
def c13E (n:Nat):List (FE Tryz.prog):=[(c16 n).e]
def Qf (n:Nat):LP Tryz.prog Tryz.f13.ntmps:=cg (c13E n) [] 0 (sb (acM [] [] Tryz.f13) 0) true ⟨[(1,.p 1 0),(3,.s),(4,.i .i64)],[(0,.rows q12),(1,.cells q18)],2,1,1,1⟩ [] [⟨.exit 0,⟨[(1,.p 1 0),(3,.s)],[(0,.rows q12),(1,.cells q18)],2,1,1,1⟩⟩] (bT n) n
def c13 (n:Nat):FF Tryz.prog 13 [.ag q18] q115 1 1 [⟨.s,[],[],false⟩]:=funC Tryz.func13 Tryz.call13 (c13E n) [Qf n] [] [] [0] (gB n)
def LF (n:Nat):LP Tryz.prog Tryz.f10.ntmps:=cg [] [] 0 (sb (acM [] [] Tryz.f10) 0) true ⟨q112,[(0,.rows q12),(1,.rows q12),(2,.cells q14),(3,.cells q27)],4,2,2,2⟩ [] q69 (lw n) n
def P2 (n:Nat):FF Tryz.prog 10 [.ag q14,.ag q27] q138 2 2 [⟨.i .i64,[],[],false⟩]:=funC Tryz.func10 Tryz.call10 [] [LF n] [] [] [0,1] (ng n)
def ML (n:Nat):LP Tryz.prog Tryz.f10.ntmps:=cg [] [] 0 (sb (acM [] [] Tryz.f10) 0) true ⟨q112,[(0,.rows q12),(1,.rows q12),(2,.cells q18),(3,.cells q27)],4,2,2,2⟩ [] q69 (fH n) n
def QA (n:Nat):FF Tryz.prog 10 [.ag q18,.ag q27] q138 2 2 [⟨.i .i64,[],[],false⟩]:=funC Tryz.func10 Tryz.call10 [] [ML n] [] [] [0,1] (fG n)
def c3E (n:Nat):List (FE Tryz.prog):=[(c7 n).e,(c8 n).e,(c9 n).e,altF (c10 n).e (altF (M2 n).e (altF (P2 n).e ((QA n).e) (xD (b:=10) rfl rfl)) (xD (b:=10) rfl rfl)) (xD (b:=10) rfl rfl),altF (c11 n).e ((PR n).e) (xD (b:=11) rfl rfl),altF (c12 n).e ((Nf n).e) (xD (b:=12) rfl rfl),(c13 n).e]
def c3j4 (n:Nat):LP Tryz.prog Tryz.f3.ntmps:=ci (c3E n) [] 1004 (sb (acM [] [4,6,7,10,13,15,22] Tryz.f3) 1004) true ⟨[(0,.s)],[],0,0,0,0⟩ [⟨.nrm,⟨q155,q93,2,0,0,0⟩⟩,⟨.nrm,⟨q155,q94,2,0,0,0⟩⟩] (gq n)
def c3j6 (n:Nat):LP Tryz.prog Tryz.f3.ntmps:=ci (c3E n) [] 1006 (sb (acM [] [4,6,7,10,13,15,22] Tryz.f3) 1006) true ⟨q128,q41,5,0,0,0⟩ [⟨.nrm,⟨q68,q41,5,0,0,0⟩⟩] (eo n)
def QQ (n:Nat):LP Tryz.prog Tryz.f3.ntmps:=ci (c3E n) [] 1006 (sb (acM [] [4,6,7,10,13,15,22] Tryz.f3) 1006) true ⟨q128,q42,5,0,0,0⟩ [⟨.nrm,⟨q68,q42,5,0,0,0⟩⟩] (fW n)
def OU (n:Nat):LP Tryz.prog Tryz.f3.ntmps:=ci (c3E n) [] 1010 (sb (sb (acM [] [4,6,7,10,13,15,22] Tryz.f3) 1007) 1010) true ⟨q126,q41,5,0,0,0⟩ q144 (dU n)
def Kk (n:Nat):LP Tryz.prog Tryz.f3.ntmps:=ci (c3E n) [] 1010 (sb (sb (acM [] [4,6,7,10,13,15,22] Tryz.f3) 1007) 1010) true ⟨q126,q42,5,0,0,0⟩ q145 (fq n)
def c3j7 (n:Nat):LP Tryz.prog Tryz.f3.ntmps:=ci (c3E n) [altL (OU n) (Kk n) rfl] 1007 (sb (acM [] [4,6,7,10,13,15,22] Tryz.f3) 1007) true ⟨q68,q41,5,0,0,0⟩ q144 (ej n)
def QL (n:Nat):LP Tryz.prog Tryz.f3.ntmps:=ci (c3E n) [altL (OU n) (Kk n) rfl] 1007 (sb (acM [] [4,6,7,10,13,15,22] Tryz.f3) 1007) true ⟨q68,q42,5,0,0,0⟩ q145 (fY n)
def Qe (n:Nat):LP Tryz.prog Tryz.f3.ntmps:=ci (c3E n) [] 1013 (sb (acM [] [4,6,7,10,13,15,22] Tryz.f3) 1013) true ⟨q127,q41,5,0,0,0⟩ q144 (dP n)
def Ov (n:Nat):LP Tryz.prog Tryz.f3.ntmps:=ci (c3E n) [] 1013 (sb (acM [] [4,6,7,10,13,15,22] Tryz.f3) 1013) true ⟨q127,q42,5,0,0,0⟩ q145 (ft n)
def PU (n:Nat):LP Tryz.prog Tryz.f3.ntmps:=ci (c3E n) [] 1015 (sb (acM [] [4,6,7,10,13,15,22] Tryz.f3) 1015) true ⟨q51,q41,5,0,0,0⟩ [⟨.nrm,⟨[(3,.p 0 0),(5,.i .i64),(62,.b)],q93,2,0,0,0⟩⟩] (dS n)
def NU (n:Nat):LP Tryz.prog Tryz.f3.ntmps:=ci (c3E n) [] 1015 (sb (acM [] [4,6,7,10,13,15,22] Tryz.f3) 1015) true ⟨q51,q42,5,0,0,0⟩ [⟨.nrm,⟨[(3,.p 0 0),(5,.i .i64),(62,.b)],q94,2,0,0,0⟩⟩] (fp n)
def PI (n:Nat):LP Tryz.prog Tryz.f3.ntmps:=ci (c3E n) [] 1022 (sb (acM [] [4,6,7,10,13,15,22] Tryz.f3) 1022) true ⟨[(3,.p 0 0),(8,.s),(9,.i .i64)],q93,2,0,0,0⟩ [⟨.nrm,⟨q67,q88,4,0,0,0⟩⟩,⟨.nrm,⟨q67,q89,4,0,0,0⟩⟩] (jd n)
def NS (n:Nat):LP Tryz.prog Tryz.f3.ntmps:=ci (c3E n) [] 1022 (sb (acM [] [4,6,7,10,13,15,22] Tryz.f3) 1022) true ⟨[(3,.p 0 0),(8,.s),(9,.i .i64)],q94,2,0,0,0⟩ [⟨.nrm,⟨q67,q90,4,0,0,0⟩⟩,⟨.nrm,⟨q67,q91,4,0,0,0⟩⟩] (fv n)
def c3 (n:Nat):PF Tryz.prog 3 [.s] (.b):=aK Tryz.func3 Tryz.call3 (c3E n) [c3j4 n,altL (c3j6 n) (QQ n) rfl,altL (c3j7 n) (QL n) rfl,altL (Qe n) (Ov n) rfl,altL (PU n) (NU n) rfl,altL (PI n) (NS n) rfl] [] [4,6,7,10,13,15,22] (dZ n)
theorem pure_circalaw19_ListsParse (n:Nat):∀a r,dZ n a=some r->kl Tryz.prog 3 (argP [.s] a) (encP (.b) r):=λa r h=>(c3 n).ok a r h
end
end Go.Sh
