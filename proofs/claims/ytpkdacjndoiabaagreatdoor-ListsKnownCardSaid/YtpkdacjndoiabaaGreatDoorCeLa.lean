/- Each function of the program computes its plain function: the certificates.
   Conditions: none. Printed by the bench tool gen.py. -/
import Derived.Test.YtpkdacjndoiabaaGreatDoorYText
set_option linter.unusedVariables false
set_option linter.unusedSimpArgs false
set_option maxRecDepth 100000
set_option maxHeartbeats 4000000
namespace Go.Sh
open Go.Abs Go.Proofs
noncomputable section
abbrev q151:List (Nat×PB):=[(0,.rows q12),(1,.cells q14),(2,.rows [.s])]
abbrev q152:List (Nat×PB):=[(0,.rows q12),(1,.cells q18),(2,.rows [.s])]
abbrev q72:List (Nat×PB):=[(0,.ints .u8 3),(1,.ints .u8 3),(2,.ints .u8 3),(3,.ints .u8 3),(4,.ints .u8 3)]
abbrev q155:List (Nat×PV):=[(0,.s),(3,.p 0 0),(4,.i .i64),(5,.i .i64)]
abbrev q129:List (Nat×PV):=[(0,.s),(3,.p 0 0),(4,.i .i64),(5,.i .i64),(6,.p 1 0),(7,.p 2 0)]
abbrev q41:List (Nat×PB):=[(0,.cells q16),(1,.cells q13),(2,.cells q36),(3,.rows q12),(4,.rows q12)]
abbrev q68:List (Nat×PV):=[(3,.p 0 0),(4,.i .i64),(5,.i .i64),(6,.p 1 0),(7,.p 2 0),(37,.b)]
abbrev q42:List (Nat×PB):=[(0,.cells q15),(1,.cells q13),(2,.cells q36),(3,.rows q12),(4,.rows q12)]
abbrev q127:List (Nat×PV):=[(3,.p 0 0),(4,.i .i64),(5,.i .i64),(6,.p 1 0),(7,.p 2 0),(41,.b)]
abbrev q51:List (Nat×PV):=[(3,.p 0 0),(4,.i .i64),(5,.i .i64),(6,.p 1 0),(7,.p 2 0)]
abbrev q144:List PX:=[⟨.nrm,⟨q51,q41,5,0,0,0⟩⟩]
abbrev q145:List PX:=[⟨.nrm,⟨q51,q42,5,0,0,0⟩⟩]
abbrev q128:List (Nat×PV):=[(3,.p 0 0),(4,.i .i64),(5,.i .i64),(6,.p 1 0),(7,.p 2 0),(45,.b)]
abbrev q67:List (Nat×PV):=[(3,.p 0 0),(8,.s),(9,.i .i64),(10,.p 1 0),(11,.i .i64),(12,.i .i64)]
noncomputable def NI (n:Nat):Ent:=KX 76 (cu n)
theorem Lx (n:Nat):gN Tryz.prog (NI n):=Ja Tryz.call76 (IS n) (MY n)
def c76 (n:Nat):FE Tryz.prog:=libF (Lx n)
def c77 (n:Nat):PF Tryz.prog 77 [.i .u8] (.tp q38):=aL Tryz.func77 Tryz.call77 [(c124 n).e,(c125 n).e] [] [] [] (qT n)
noncomputable def MP (_n:Nat):Ent:=P7 28
theorem KN (n:Nat):gN Tryz.prog (MP n):=Na Tryz.call28 Tryz.strings_Join_none Tryz.strings_Join
def c28 (n:Nat):FE Tryz.prog:=libF (KN n)
def c37E (n:Nat):List (FE Tryz.prog):=[(c73 n).e,(c74 n).e,(c75 n).e,(c76 n),(c77 n).e,(c28 n)]
def VY (n:Nat):LP Tryz.prog Tryz.f37.ntmps:=cf (c37E n) [] 0 (sb (acM [] [] Tryz.f37) 0) false ⟨[(6,.p 1 0),(7,.p 2 0),(11,.ws 3),(48,.rs 1 4 0 .q none),(49,.i .i64),(50,.i .i64)],[(1,.ints .u8 3),(2,.ints .u8 3),(3,.rows [.s]),(4,.rows [.s])],5,0,0,0⟩ [] [⟨.exit 0,⟨[(11,.ws 3)],[(3,.rows [.s])],5,0,0,0⟩⟩] (aS n) n
def c37 (n:Nat):PF Tryz.prog 37 q97 (.tp q38):=aL Tryz.func37 Tryz.call37 (c37E n) [VY n] [] [] (fb n)
def c15 (n:Nat):PF Tryz.prog 15 [.ag q23] (.tp q38):=aL Tryz.func15 Tryz.call15 [(c36 n).e,(c37 n).e] [] [] [] (ga n)
def c11E (n:Nat):List (FE Tryz.prog):=[(c12 n).e,(c15 n).e,(c27 n).e,(c28 n)]
def VB (n:Nat):LP Tryz.prog Tryz.f11.ntmps:=cf (c11E n) [] 0 (sb (acM [] [] Tryz.f11) 0) true ⟨[(1,.p 1 0),(5,.ws 2),(28,.ws 0),(29,.i .i64),(30,.i .i64)],q151,3,1,1,1⟩ [] [⟨.exit 0,⟨[(1,.p 1 0),(5,.ws 2)],q151,3,1,1,1⟩⟩] (ch n) n
def c11 (n:Nat):FF Tryz.prog 11 [.ag q14] q115 1 1 [⟨.tp q38,[],[],false⟩]:=funC Tryz.func11 Tryz.call11 (c11E n) [VB n] [] [] [0] (mR n)
def SO (n:Nat):FF Tryz.prog 12 [.ag q18] q115 1 1 [⟨.i .i64,[],[],false⟩]:=funC Tryz.func12 Tryz.call12 [(c29 n).e] [] [] [] [0] (eP n)
def OG (n:Nat):List (FE Tryz.prog):=[(SO n).e,(c15 n).e,(c27 n).e,(c28 n)]
def Ri (n:Nat):LP Tryz.prog Tryz.f11.ntmps:=cf (OG n) [] 0 (sb (acM [] [] Tryz.f11) 0) true ⟨[(1,.p 1 0),(5,.ws 2),(28,.rs 21 0 0 .q (some .q)),(29,.i .i64),(30,.i .i64)],q152,3,1,1,1⟩ [] [⟨.exit 0,⟨[(1,.p 1 0),(5,.ws 2)],q152,3,1,1,1⟩⟩] (fA n) n
def UV (n:Nat):FF Tryz.prog 11 [.ag q18] q115 1 1 [⟨.tp q38,[],[],false⟩]:=funC Tryz.func11 Tryz.call11 (OG n) [Ri n] [] [] [0] (nL n)
def VH (n:Nat):LP Tryz.prog Tryz.f78.ntmps:=cf [] [] 0 (sb (acM [] [] Tryz.f78) 0) false ⟨[(1,.i .i64),(2,.p 0 0),(4,.p 1 0),(5,.p 2 0),(6,.p 3 0),(7,.p 4 0),(8,.b),(9,.i .i64)],q72,5,0,0,0⟩ [] [⟨.exit 0,⟨[(1,.i .i64),(2,.p 0 0),(4,.p 1 0),(5,.p 2 0),(6,.p 3 0),(7,.p 4 0),(8,.b)],q72,5,0,0,0⟩⟩] (m6 n) n
def Vg (n:Nat):LP Tryz.prog Tryz.f78.ntmps:=cf [] [] 1 (sb (acM [] [] Tryz.f78) 1) false ⟨[(1,.i .i64),(2,.p 0 0),(4,.p 1 0),(5,.p 2 0),(6,.p 3 0),(7,.p 4 0),(10,.i .i64)],q72,5,0,0,0⟩ [] [⟨.exit 2,⟨[(4,.p 1 0),(5,.p 2 0),(6,.p 3 0),(7,.p 4 0)],[(1,.ints .u8 3),(2,.ints .u8 3),(3,.ints .u8 3),(4,.ints .u8 3)],5,0,0,0⟩⟩] (nD n) n
def c78 (n:Nat):PF Tryz.prog 78 q131 (.tp [.ai .u8 3,.ai .u8 3]):=aL Tryz.func78 Tryz.call78 [] [VH n,Vg n] [] [] (jN n)
def c126 (n:Nat):PF Tryz.prog 126 [.i .i64] (.s):=aL Tryz.func126 Tryz.call126 [] [] [] [] (aF n)
def c80 (n:Nat):PF Tryz.prog 80 q143 (.s):=aL Tryz.func80 Tryz.call80 [(c126 n).e] [] [] [] (kr n)
def c38 (n:Nat):PF Tryz.prog 38 q97 (.s):=aL Tryz.func38 Tryz.call38 [(c41 n).e,(c78 n).e,(c79 n).e,(c80 n).e] [] [] [] (ee n)
def c16 (n:Nat):PF Tryz.prog 16 [.ag q23] (.s):=aL Tryz.func16 Tryz.call16 [(c38 n).e] [] [] [] (ct n)
def c13E (n:Nat):List (FE Tryz.prog):=[(c16 n).e]
def Wg (n:Nat):LP Tryz.prog Tryz.f13.ntmps:=cf (c13E n) [] 0 (sb (acM [] [] Tryz.f13) 0) true ⟨[(1,.p 1 0),(3,.s),(4,.i .i64)],[(0,.rows q12),(1,.cells q18)],2,1,1,1⟩ [] [⟨.exit 0,⟨[(1,.p 1 0),(3,.s)],[(0,.rows q12),(1,.cells q18)],2,1,1,1⟩⟩] (bY n) n
def c13 (n:Nat):FF Tryz.prog 13 [.ag q18] q115 1 1 [⟨.s,[],[],false⟩]:=funC Tryz.func13 Tryz.call13 (c13E n) [Wg n] [] [] [0] (gR n)
def Q9 (n:Nat):LP Tryz.prog Tryz.f10.ntmps:=cf [] [] 0 (sb (acM [] [] Tryz.f10) 0) true ⟨q112,[(0,.rows q12),(1,.rows q12),(2,.cells q14),(3,.cells q27)],4,2,2,2⟩ [] q69 (lL n) n
def VQ (n:Nat):FF Tryz.prog 10 [.ag q14,.ag q27] q138 2 2 [⟨.i .i64,[],[],false⟩]:=funC Tryz.func10 Tryz.call10 [] [Q9 n] [] [] [0,1] (nH n)
def Pn (n:Nat):LP Tryz.prog Tryz.f10.ntmps:=cf [] [] 0 (sb (acM [] [] Tryz.f10) 0) true ⟨q112,[(0,.rows q12),(1,.rows q12),(2,.cells q18),(3,.cells q27)],4,2,2,2⟩ [] q69 (fR n) n
def U0 (n:Nat):FF Tryz.prog 10 [.ag q18,.ag q27] q138 2 2 [⟨.i .i64,[],[],false⟩]:=funC Tryz.func10 Tryz.call10 [] [Pn n] [] [] [0,1] (fO n)
def c3E (n:Nat):List (FE Tryz.prog):=[(c7 n).e,(c8 n).e,(c9 n).e,altF (c10 n).e (altF (S8 n).e (altF (VQ n).e ((U0 n).e) (yI (b:=10) rfl rfl)) (yI (b:=10) rfl rfl)) (yI (b:=10) rfl rfl),altF (c11 n).e ((UV n).e) (yI (b:=11) rfl rfl),altF (c12 n).e ((SO n).e) (yI (b:=12) rfl rfl),(c13 n).e]
def c3j4 (n:Nat):LP Tryz.prog Tryz.f3.ntmps:=cr (c3E n) [] 1004 (sb (acM [] [4,6,7,10,13,15,22] Tryz.f3) 1004) true ⟨[(0,.s)],[],0,0,0,0⟩ [⟨.nrm,⟨q155,q93,2,0,0,0⟩⟩,⟨.nrm,⟨q155,q94,2,0,0,0⟩⟩] (gK n)
def c3j6 (n:Nat):LP Tryz.prog Tryz.f3.ntmps:=cr (c3E n) [] 1006 (sb (acM [] [4,6,7,10,13,15,22] Tryz.f3) 1006) true ⟨q129,q41,5,0,0,0⟩ [⟨.nrm,⟨q68,q41,5,0,0,0⟩⟩] (eG n)
def U5 (n:Nat):LP Tryz.prog Tryz.f3.ntmps:=cr (c3E n) [] 1006 (sb (acM [] [4,6,7,10,13,15,22] Tryz.f3) 1006) true ⟨q129,q42,5,0,0,0⟩ [⟨.nrm,⟨q68,q42,5,0,0,0⟩⟩] (gk n)
def Rn (n:Nat):LP Tryz.prog Tryz.f3.ntmps:=cr (c3E n) [] 1010 (sb (sb (acM [] [4,6,7,10,13,15,22] Tryz.f3) 1007) 1010) true ⟨q127,q41,5,0,0,0⟩ q144 (dY n)
def OR (n:Nat):LP Tryz.prog Tryz.f3.ntmps:=cr (c3E n) [] 1010 (sb (sb (acM [] [4,6,7,10,13,15,22] Tryz.f3) 1007) 1010) true ⟨q127,q42,5,0,0,0⟩ q145 (fD n)
def c3j7 (n:Nat):LP Tryz.prog Tryz.f3.ntmps:=cr (c3E n) [altL (Rn n) (OR n) rfl] 1007 (sb (acM [] [4,6,7,10,13,15,22] Tryz.f3) 1007) true ⟨q68,q41,5,0,0,0⟩ q144 (eq n)
def VC (n:Nat):LP Tryz.prog Tryz.f3.ntmps:=cr (c3E n) [altL (Rn n) (OR n) rfl] 1007 (sb (acM [] [4,6,7,10,13,15,22] Tryz.f3) 1007) true ⟨q68,q42,5,0,0,0⟩ q145 (gj n)
def Vq (n:Nat):LP Tryz.prog Tryz.f3.ntmps:=cr (c3E n) [] 1013 (sb (acM [] [4,6,7,10,13,15,22] Tryz.f3) 1013) true ⟨q128,q41,5,0,0,0⟩ q144 (dT n)
def Sv (n:Nat):LP Tryz.prog Tryz.f3.ntmps:=cr (c3E n) [] 1013 (sb (acM [] [4,6,7,10,13,15,22] Tryz.f3) 1013) true ⟨q128,q42,5,0,0,0⟩ q145 (fF n)
def VI (n:Nat):LP Tryz.prog Tryz.f3.ntmps:=cr (c3E n) [] 1015 (sb (acM [] [4,6,7,10,13,15,22] Tryz.f3) 1015) true ⟨q51,q41,5,0,0,0⟩ [⟨.nrm,⟨[(3,.p 0 0),(5,.i .i64),(62,.b)],q93,2,0,0,0⟩⟩] (dZ n)
def TU (n:Nat):LP Tryz.prog Tryz.f3.ntmps:=cr (c3E n) [] 1015 (sb (acM [] [4,6,7,10,13,15,22] Tryz.f3) 1015) true ⟨q51,q42,5,0,0,0⟩ [⟨.nrm,⟨[(3,.p 0 0),(5,.i .i64),(62,.b)],q94,2,0,0,0⟩⟩] (fH n)
def UZ (n:Nat):LP Tryz.prog Tryz.f3.ntmps:=cr (c3E n) [] 1022 (sb (acM [] [4,6,7,10,13,15,22] Tryz.f3) 1022) true ⟨[(3,.p 0 0),(8,.s),(9,.i .i64)],q93,2,0,0,0⟩ [⟨.nrm,⟨q67,q88,4,0,0,0⟩⟩,⟨.nrm,⟨q67,q89,4,0,0,0⟩⟩] (jy n)
def R7 (n:Nat):LP Tryz.prog Tryz.f3.ntmps:=cr (c3E n) [] 1022 (sb (acM [] [4,6,7,10,13,15,22] Tryz.f3) 1022) true ⟨[(3,.p 0 0),(8,.s),(9,.i .i64)],q94,2,0,0,0⟩ [⟨.nrm,⟨q67,q90,4,0,0,0⟩⟩,⟨.nrm,⟨q67,q91,4,0,0,0⟩⟩] (fG n)
def c3 (n:Nat):PF Tryz.prog 3 [.s] (.b):=aL Tryz.func3 Tryz.call3 (c3E n) [c3j4 n,altL (c3j6 n) (U5 n) rfl,altL (c3j7 n) (VC n) rfl,altL (Vq n) (Sv n) rfl,altL (VI n) (TU n) rfl,altL (UZ n) (R7 n) rfl] [] [4,6,7,10,13,15,22] (eg n)
def c6E (n:Nat):List (FE Tryz.prog):=[(c8 n).e,(c3 n).e,(c7 n).e]
def c6l0 (n:Nat):LP Tryz.prog Tryz.f6.ntmps:=cf (c6E n) [] 0 (sb (acM [] [] Tryz.f6) 0) true ⟨[(1,.s),(2,.i .i64)],[],0,0,0,0⟩ [] [⟨.exit 0,⟨[(1,.s)],[],0,0,0,0⟩⟩] (eC n) n
def c6l1 (n:Nat):LP Tryz.prog Tryz.f6.ntmps:=cf (c6E n) [] 1 (sb (acM [] [] Tryz.f6) 1) true ⟨[(12,.ws 0),(13,.i .i64)],[(0,.rows [.s])],1,0,0,0⟩ [] [⟨.ret,⟨[(0,.b)],[],0,0,0,0⟩⟩,⟨.exit 2,q124⟩] (aH n) n
def c6 (n:Nat):PF Tryz.prog 6 [] (.b):=aL Tryz.func6 Tryz.call6 (c6E n) [c6l0 n,c6l1 n] [] [] (dj n)
theorem pure_circalaw19_ListsKnown (n:Nat):∀a r,dj n=some r->ks Tryz.prog 6 (argP [] a) (encP (.b) r):=λa r h=>(c6 n).ok a r h
end
end Go.Sh
