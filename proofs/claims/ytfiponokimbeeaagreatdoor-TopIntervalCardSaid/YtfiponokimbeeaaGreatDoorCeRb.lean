/- Each function of the program computes its plain function: the certificates.
   Conditions: none. Printed by the bench tool gen.py. -/
import Derived.Test.YtfiponokimbeeaaGreatDoorCeRa
import Derived.Test.YtfiponokimbeeaaGreatDoorYText
set_option linter.unusedVariables false
set_option linter.unusedSimpArgs false
set_option maxRecDepth 100000
set_option maxHeartbeats 4000000
namespace Go.Sh
open Go.Abs Go.Proofs
noncomputable section
abbrev q80:List (Nat×PB):=[(0,.rows q11),(1,.cells q14),(2,.rows [.s])]
abbrev q81:List (Nat×PB):=[(0,.rows q11),(1,.cells q13),(2,.rows [.s])]
abbrev q73:List (Nat×PB):=[(1,.cells [.i .i64])]
abbrev q22:List Lf:=[.bo,.bo,.s,.i .i64,.i .i64,.s,.s,.i .u8,.i .u8,.i .u8]
abbrev q79:List PX:=[⟨.exit 3,⟨[(3,.ws 1)],[(1,.rows q22)],2,1,1,1⟩⟩]
abbrev q77:List (Nat×PB):=[(1,.cells [.i .i64]),(2,.cells q23),(3,.rows q22)]
abbrev q38:PSt:=⟨[(5,.p 1 0),(6,.fn 49 [.p 1 0]),(8,.p 2 0),(9,.i .i64),(10,.b),(11,.i .i64),(12,.b),(13,.i .i64),(49,.rs 10 3 0 .q (some .q)),(50,.i .i64),(51,.i .i64)],q77,4,1,1,1⟩
abbrev q43:List PX:=[⟨.exit 2,⟨[(5,.p 1 0),(6,.fn 49 [.p 1 0]),(8,.p 2 0),(9,.i .i64),(10,.b),(12,.b),(49,.rs 10 3 0 .q (some .q)),(50,.i .i64),(51,.i .i64)],q77,4,1,1,1⟩⟩]
abbrev q53:PSt:=⟨[(5,.p 1 0),(6,.fn 49 [.p 1 0]),(49,.rs 10 2 0 .q (some .q)),(50,.i .i64),(51,.i .i64)],[(1,.cells [.i .i64]),(2,.rows q22)],3,1,1,1⟩
abbrev q28:List (Nat×PB):=[(1,.rows [.i .i64]),(2,.rows [.i .i64]),(3,.cells [.b,.b,.s,.i .i64,.i .i64,.s,.s,.i .u8,.i .u8,.i .u8,.ws 1,.ws 2])]
abbrev q61:PSt:=⟨[(5,.p 3 0),(8,.i .i64),(9,.i .i64),(63,.ws 1),(64,.i .i64),(65,.i .i64)],q28,4,0,0,0⟩
noncomputable def MM (n:Nat):Ent:=Hw 57 (bW n)
theorem La (n:Nat):ep Tryz.prog (MM n):=J3 Tryz.call57 (JH n) (M5 n)
def c57 (n:Nat):FE Tryz.prog:=libF (La n)
def c58 (n:Nat):PF Tryz.prog 58 [.i .u8] (.tp q21):=aM Tryz.func58 Tryz.call58 [(c108 n).e,(c71 n).e] [] [] [] (pM n)
noncomputable def MV (_n:Nat):Ent:=QP 59
theorem JV (n:Nat):ep Tryz.prog (MV n):=Nw Tryz.call59 Tryz.strings_Join_none Tryz.strings_Join
def c59 (n:Nat):FE Tryz.prog:=libF (JV n)
def c22E (n:Nat):List (FE Tryz.prog):=[(c55 n).e,(c52 n).e,(c56 n).e,(c57 n),(c58 n).e,(c59 n)]
def UC (n:Nat):LP Tryz.prog Tryz.f22.ntmps:=dG (c22E n) [] 0 (sb (acM [] [] Tryz.f22) 0) false ⟨[(6,.p 1 0),(7,.p 2 0),(11,.ws 3),(48,.rs 1 4 0 .q none),(49,.i .i64),(50,.i .i64)],[(1,.ints .u8 3),(2,.ints .u8 3),(3,.rows [.s]),(4,.rows [.s])],5,0,0,0⟩ [] [⟨.exit 0,⟨[(11,.ws 3)],[(3,.rows [.s])],5,0,0,0⟩⟩] (aK n) n
def c22 (n:Nat):PF Tryz.prog 22 q66 (.tp q21):=aM Tryz.func22 Tryz.call22 (c22E n) [UC n] [] [] (bH n)
def c142 (n:Nat):FF Tryz.prog 142 q74 q51 1 1 [⟨.tp q21,[],[],false⟩]:=funC Tryz.func142 Tryz.call142 [(c22 n).e] [] [] [] [0] (jy n)
def c205 (n:Nat):PF Tryz.prog 205 [.ag q48] (.tp q21):=aM Tryz.func205 Tryz.call205 [(c199 n).e,(c22 n).e] [] [] [] (ic n)
def c143 (n:Nat):FF Tryz.prog 143 q74 q51 1 1 [⟨.tp q21,[],[],false⟩]:=funC Tryz.func143 Tryz.call143 [(c205 n).e] [] [] [] [0] (ij n)
def c206 (n:Nat):PF Tryz.prog 206 [.ag q19] (.tp q21):=aM Tryz.func206 Tryz.call206 [(c217 n).e,(c22 n).e] [] [] [] (gP n)
def SV (n:Nat):List (FE Tryz.prog):=[(c48 n).e,(c206 n).e,(c192 n).e,(c59 n)]
def Ri (n:Nat):LP Tryz.prog Tryz.f144.ntmps:=dG (SV n) [] 0 (sb (acM [] [] Tryz.f144) 0) true ⟨[(1,.p 1 0),(5,.ws 2),(28,.ws 0),(29,.i .i64),(30,.i .i64)],q80,3,1,1,1⟩ [] [⟨.exit 0,⟨[(1,.p 1 0),(5,.ws 2)],q80,3,1,1,1⟩⟩] (dJ n) n
def c144 (n:Nat):FF Tryz.prog 144 q74 q51 1 1 [⟨.tp q21,[],[],false⟩]:=funC Tryz.func144 Tryz.call144 (SV n) [Ri n] [] [] [0] (mQ n)
def c28 (n:Nat):FF Tryz.prog 28 q74 q51 1 1 [⟨.tp q21,[],[],false⟩]:=funC Tryz.func28 Tryz.call28 [(c48 n).e,(c74 n).e,(c142 n).e,(c143 n).e,(c144 n).e] [] [] [] [0] (dL n)
def QI (n:Nat):FF Tryz.prog 48 q78 q51 1 1 [⟨.i .i64,[],[],false⟩]:=funC Tryz.func48 Tryz.call48 [(c94 n).e] [] [] [] [0] (ju n)
def TK (n:Nat):FF Tryz.prog 142 q78 q51 1 1 [⟨.tp q21,[],[],false⟩]:=funC Tryz.func142 Tryz.call142 [(c22 n).e] [] [] [] [0] (lj n)
def SQ (n:Nat):FF Tryz.prog 143 q78 q51 1 1 [⟨.tp q21,[],[],false⟩]:=funC Tryz.func143 Tryz.call143 [(c205 n).e] [] [] [] [0] (l9 n)
def Jr (n:Nat):List (FE Tryz.prog):=[(QI n).e,(c206 n).e,(c192 n).e,(c59 n)]
def M7 (n:Nat):LP Tryz.prog Tryz.f144.ntmps:=dG (Jr n) [] 0 (sb (acM [] [] Tryz.f144) 0) true ⟨[(1,.p 1 0),(5,.ws 2),(28,.rs 21 0 0 .q (some .q)),(29,.i .i64),(30,.i .i64)],q81,3,1,1,1⟩ [] [⟨.exit 0,⟨[(1,.p 1 0),(5,.ws 2)],q81,3,1,1,1⟩⟩] (mj n) n
def S9 (n:Nat):FF Tryz.prog 144 q78 q51 1 1 [⟨.tp q21,[],[],false⟩]:=funC Tryz.func144 Tryz.call144 (Jr n) [M7 n] [] [] [0] (pf n)
def SU (n:Nat):FF Tryz.prog 28 q78 q51 1 1 [⟨.tp q21,[],[],false⟩]:=funC Tryz.func28 Tryz.call28 [(QI n).e,(c74 n).e,(TK n).e,(SQ n).e,(S9 n).e] [] [] [] [0] (io n)
def Uz (n:Nat):LP Tryz.prog Tryz.f49.ntmps:=dG [] [] 0 (sb (acM [] [] Tryz.f49) 0) true ⟨[(1,.p 1 0),(5,.ws 0),(6,.i .i64),(7,.i .i64)],[(0,.rows [.i .i64,.bo]),(1,.cells [.i .i64])],2,2,1,2⟩ [] [⟨.exit 0,⟨[],q73,2,2,1,2⟩⟩] (lk n) n
def c49 (n:Nat):FF Tryz.prog 49 [.ws 0,.p 1 0] [.rows [.i .i64,.bo],.cells [.i .i64]] 1 2 [⟨.tp [],q73,[],false⟩]:=funC Tryz.func49 Tryz.call49 [] [Uz n] [] [] [0,1] (ay n)
def c95 (n:Nat):FF Tryz.prog 95 [.ws 0] [.rows q22] 1 1 [⟨.rs 10 0 0 .q (some .q),[],[],false⟩]:=funC Tryz.func95 Tryz.call95 [] [] [] [] [0] (av n)
def c50E (n:Nat):List (FE Tryz.prog):=[(c95 n).e]
def Uk (n:Nat):LP Tryz.prog Tryz.f50.ntmps:=dG (c50E n) [] 1 (sb (acM [0] [] Tryz.f50) 1) true ⟨[(3,.ws 1),(40,.ws 0),(41,.i .i64),(42,.i .i64)],[(0,.rows q11),(1,.rows q22)],2,1,1,1⟩ [] q79 (mL n) n
def c50 (n:Nat):FF Tryz.prog 50 q74 q51 1 1 [⟨.rs 10 1 0 .q (some .q),[(1,.rows q22)],[1],false⟩]:=funC Tryz.func50 Tryz.call50 (c50E n) [Uk n] [0] [] [0] (gz n)
def c17E (n:Nat):List (FE Tryz.prog):=[(c48 n).e,(c49 n).e,(c50 n).e,(c51 n).e,(c52 n).e,(c53 n).e]
def Ut (n:Nat):LP Tryz.prog Tryz.f17.ntmps:=dG (c17E n) [] 1 (sb (sb (acM [] [] Tryz.f17) 0).body 1) true q38 [] q43 (mC n) n
def UF (n:Nat):LP Tryz.prog Tryz.f17.ntmps:=dG (c17E n) [Ut n] 0 (sb (acM [] [] Tryz.f17) 0) true q53 [] [⟨.exit 0,⟨[(5,.p 1 0)],q73,2,1,1,1⟩⟩] (dc n) n
def c17 (n:Nat):FF Tryz.prog 17 q74 q51 1 1 [⟨.tp [.i .i64,.i .i64],[],[],false⟩]:=funC Tryz.func17 Tryz.call17 (c17E n) [UF n] [] [] [0] (lR n)
def c54 (n:Nat):PF Tryz.prog 54 [.s] (.tp q26):=aM Tryz.func54 Tryz.call54 [(c24 n).e] [] [] [] (lF n)
def c18 (n:Nat):FF Tryz.prog 18 q74 q51 1 1 [⟨.tp [.i .i64,.i .i64],[],[],false⟩]:=funC Tryz.func18 Tryz.call18 [(c48 n).e,(c28 n).e,(c54 n).e] [] [] [] [0] (mw n)
def c138 (n:Nat):PF Tryz.prog 138 q66 (.i .i64):=aM Tryz.func138 Tryz.call138 [(c60 n).e] [] [] [] (qp n)
def c258 (_n:Nat):FE Tryz.prog:=libF (Il Tryz.func258 (by kernel_rfl) (by kernel_rfl) (by kernel_rfl) (by kernel_rfl))
def c202 (n:Nat):PF Tryz.prog 202 [.s,.sk [88]] (.i .i64):=aM Tryz.func202 Tryz.call202 [(c258 n)] [noL 0 (sb (acM [] [] Tryz.f202) 0)] [] [] (rK n)
def c139 (n:Nat):PF Tryz.prog 139 [.s] (.tp [.i .i64,.i .i64]):=aM Tryz.func139 Tryz.call139 [(c200 n).e,(c202 n).e,(c201 n).e] [] [] [] (vO n)
def c73E (n:Nat):List (FE Tryz.prog):=[(c138 n).e,(c110 n).e,(c112 n).e,(c139 n).e,(c140 n).e,(c141 n).e]
def UA (n:Nat):LP Tryz.prog Tryz.f73.ntmps:=dG (c73E n) [] 2 (sb (sb (sb (acM [] [] Tryz.f73) 0).body 1).body 2) false ⟨[(5,.p 3 0),(8,.i .i64),(9,.i .i64),(13,.i .i64),(63,.ws 1),(64,.i .i64),(65,.i .i64),(74,.ws 2),(75,.i .i64),(76,.i .i64)],q28,4,0,0,0⟩ [] [⟨.exit 4,q61⟩] (mO n) n
def Uc (n:Nat):LP Tryz.prog Tryz.f73.ntmps:=dG (c73E n) [UA n] 1 (sb (sb (acM [] [] Tryz.f73) 0).body 1) false q61 [] [⟨.exit 2,⟨[(5,.p 3 0),(8,.i .i64),(9,.i .i64)],q28,4,0,0,0⟩⟩] (m7 n) n
def UH (n:Nat):LP Tryz.prog Tryz.f73.ntmps:=dG (c73E n) [Uc n] 0 (sb (acM [] [] Tryz.f73) 0) false ⟨[(5,.p 3 0),(8,.i .i64),(9,.i .i64),(10,.b)],q28,4,0,0,0⟩ [] [⟨.exit 0,⟨[(8,.i .i64)],[],4,0,0,0⟩⟩] (ir n) n
def c73 (n:Nat):PF Tryz.prog 73 q66 (.tp [.i .i64,.i .i64]):=aM Tryz.func73 Tryz.call73 (c73E n) [UH n] [] [] (iO n)
def Oa (n:Nat):List (FE Tryz.prog):=[(c95 n).e]
def PG (n:Nat):LP Tryz.prog Tryz.f50.ntmps:=dG (Oa n) [] 1 (sb (acM [0] [] Tryz.f50) 1) true ⟨[(3,.ws 1),(40,.rs 21 0 0 .q (some .q)),(41,.i .i64),(42,.i .i64)],[(0,.rows q11),(1,.rows q22)],2,1,1,1⟩ [] q79 (kW n) n
def Rn (n:Nat):FF Tryz.prog 50 q78 q51 1 1 [⟨.rs 10 1 0 .q (some .q),[(1,.rows q22)],[1],false⟩]:=funC Tryz.func50 Tryz.call50 (Oa n) [PG n] [0] [] [0] (dZ n)
def HQ (n:Nat):List (FE Tryz.prog):=[(QI n).e,(c49 n).e,(Rn n).e,(c51 n).e,(c52 n).e,(c53 n).e]
def QB (n:Nat):LP Tryz.prog Tryz.f17.ntmps:=dG (HQ n) [] 1 (sb (sb (acM [] [] Tryz.f17) 0).body 1) true q38 [] q43 (lh n) n
def PP (n:Nat):LP Tryz.prog Tryz.f17.ntmps:=dG (HQ n) [QB n] 0 (sb (acM [] [] Tryz.f17) 0) true q53 [] [⟨.exit 0,⟨[(5,.p 1 0)],q73,2,1,1,1⟩⟩] (cr n) n
def UX (n:Nat):FF Tryz.prog 17 q78 q51 1 1 [⟨.tp [.i .i64,.i .i64],[],[],false⟩]:=funC Tryz.func17 Tryz.call17 (HQ n) [PP n] [] [] [0] (kq n)
def c27 (n:Nat):PF Tryz.prog 27 [] (.b):=aM Tryz.func27 Tryz.call27 [(c24 n).e,altF (c28 n).e ((SU n).e) (Eq.trans (b:=28) rfl rfl),altF (c17 n).e ((UX n).e) (Eq.trans (b:=17) rfl rfl),altF (c50 n).e ((Rn n).e) (Eq.trans (b:=50) rfl rfl),(c73 n).e,(c23 n).e] [] [] [] (dM n)
def c29 (n:Nat):PF Tryz.prog 29 [.ag q23] (.tp [.i .i64,.i .i64]):=aM Tryz.func29 Tryz.call29 [(c18 n).e] [] [] [] (gC n)
def c6 (n:Nat):PF Tryz.prog 6 [.ag q29,.ag q29] (.b):=aM Tryz.func6 Tryz.call6 [(c21 n).e,(c22 n).e,(c23 n).e,(c24 n).e,(c25 n).e,(c26 n).e,(c27 n).e,altF (c28 n).e ((SU n).e) (Eq.trans (b:=28) rfl rfl),(c29 n).e] [] [] [] (fQ n)
theorem pure_circatop_TopInterval (n:Nat):∀a r,fQ n a.1 a.2.1 a.2.2.1 a.2.2.2.1 a.2.2.2.2.1 a.2.2.2.2.2.1 a.2.2.2.2.2.2.1 a.2.2.2.2.2.2.2.1 a.2.2.2.2.2.2.2.2.1 a.2.2.2.2.2.2.2.2.2.1 a.2.2.2.2.2.2.2.2.2.2.1 a.2.2.2.2.2.2.2.2.2.2.2.1 a.2.2.2.2.2.2.2.2.2.2.2.2.1 a.2.2.2.2.2.2.2.2.2.2.2.2.2.1 a.2.2.2.2.2.2.2.2.2.2.2.2.2.2.1 a.2.2.2.2.2.2.2.2.2.2.2.2.2.2.2.1 a.2.2.2.2.2.2.2.2.2.2.2.2.2.2.2.2.1 a.2.2.2.2.2.2.2.2.2.2.2.2.2.2.2.2.2.1 a.2.2.2.2.2.2.2.2.2.2.2.2.2.2.2.2.2.2.1 a.2.2.2.2.2.2.2.2.2.2.2.2.2.2.2.2.2.2.2=some r->jD Tryz.prog 6 (argP [.ag q29,.ag q29] a) (encP (.b) r):=λa r h=>(c6 n).ok a r h
end
end Go.Sh
