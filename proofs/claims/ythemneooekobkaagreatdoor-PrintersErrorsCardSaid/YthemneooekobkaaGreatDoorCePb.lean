/- Each function of the program computes its plain function: the certificates.
   Conditions: none. Printed by the bench tool gen.py. -/
import Derived.Test.YthemneooekobkaaGreatDoorCePa
import Derived.Test.YthemneooekobkaaGreatDoorYText
set_option linter.unusedVariables false
set_option linter.unusedSimpArgs false
set_option maxRecDepth 100000
set_option maxHeartbeats 4000000
namespace Go.Sh
open Go.Abs Go.Proofs
noncomputable section
abbrev q114:List (Nat×PB):=[(0,.rows q11),(1,.cells q14),(2,.rows [.s])]
abbrev q115:List (Nat×PB):=[(0,.rows q11),(1,.cells q20),(2,.rows [.s])]
abbrev q27:List (Nat×PB):=[(0,.rows q11),(1,.cells q14),(2,.cells [.bk false,.bk false,.sk [],.ik .i64 0,.ik .i64 0,.sk [],.sk [],.ik .u8 0,.ik .u8 0,.ik .u8 0]),(3,.cells [.ik .u8 0,.bk false,.bk false,.sk [],.ik .i64 0,.ik .i64 0,.sk [],.sk [],.ik .u8 0,.ik .u8 0,.ik .u8 0])]
abbrev q79:PSt:=⟨[(1,.p 1 0),(4,.p 2 0),(5,.p 3 0),(6,.b)],q27,4,1,1,1⟩
abbrev q116:List (Nat×PB):=[(0,.rows q11),(1,.cells q14),(2,.cells q21)]
abbrev q78:PSt:=⟨[(1,.p 1 0),(7,.i .i64),(8,.p 2 0),(10,.b),(11,.b)],q116,3,1,1,1⟩
noncomputable def IV (n:Nat):Ent:=IK 137 (cf n)
theorem FZ (n:Nat):ek Tryz.prog (IV n):=IR Tryz.call137 (IE n) (Ly n)
def c137 (n:Nat):FE Tryz.prog:=libF (FZ n)
def c138 (n:Nat):PF Tryz.prog 138 [.i .u8] (.tp q30):=aE Tryz.func138 Tryz.call138 [(c192 n).e,(c193 n).e] [] [] [] (pt n)
noncomputable def HA (_n:Nat):Ent:=Pj 139
theorem FC (n:Nat):ek Tryz.prog (HA n):=Lc Tryz.call139 Tryz.strings_Join_none Tryz.strings_Join
def c139 (n:Nat):FE Tryz.prog:=libF (FC n)
def c87E (n:Nat):List (FE Tryz.prog):=[(c96 n).e,(c135 n).e,(c136 n).e,(c137 n),(c138 n).e,(c139 n)]
def SJ (n:Nat):LP Tryz.prog Tryz.f87.ntmps:=cD (c87E n) [] 0 (sb (acM [] [] Tryz.f87) 0) false ⟨[(6,.p 1 0),(7,.p 2 0),(11,.ws 3),(48,.rs 1 4 0 .q none),(49,.i .i64),(50,.i .i64)],[(1,.ints .u8 3),(2,.ints .u8 3),(3,.rows [.s]),(4,.rows [.s])],5,0,0,0⟩ [] [⟨.exit 0,⟨[(11,.ws 3)],[(3,.rows [.s])],5,0,0,0⟩⟩] (aO n) n
def c87 (n:Nat):PF Tryz.prog 87 q80 (.tp q30):=aE Tryz.func87 Tryz.call87 (c87E n) [SJ n] [] [] (ch n)
def c86 (n:Nat):FF Tryz.prog 86 q100 q66 1 1 [⟨.tp q30,[],[],false⟩]:=funC Tryz.func86 Tryz.call86 [(c87 n).e] [] [] [] [0] (jS n)
def c140 (n:Nat):PF Tryz.prog 140 [.ag q38] (.tp q30):=aE Tryz.func140 Tryz.call140 [(c127 n).e,(c87 n).e] [] [] [] (ie n)
def c88 (n:Nat):FF Tryz.prog 88 q100 q66 1 1 [⟨.tp q30,[],[],false⟩]:=funC Tryz.func88 Tryz.call88 [(c140 n).e] [] [] [] [0] (iu n)
def c141 (n:Nat):PF Tryz.prog 141 [.ag q21] (.tp q30):=aE Tryz.func141 Tryz.call141 [(c181 n).e,(c87 n).e] [] [] [] (gI n)
def c89E (n:Nat):List (FE Tryz.prog):=[(c47 n).e,(c141 n).e,(c122 n).e,(c139 n)]
def TC (n:Nat):LP Tryz.prog Tryz.f89.ntmps:=cD (c89E n) [] 0 (sb (acM [] [] Tryz.f89) 0) true ⟨[(1,.p 1 0),(5,.ws 2),(28,.ws 0),(29,.i .i64),(30,.i .i64)],q114,3,1,1,1⟩ [] [⟨.exit 0,⟨[(1,.p 1 0),(5,.ws 2)],q114,3,1,1,1⟩⟩] (dA n) n
def c89 (n:Nat):FF Tryz.prog 89 q100 q66 1 1 [⟨.tp q30,[],[],false⟩]:=funC Tryz.func89 Tryz.call89 (c89E n) [TC n] [] [] [0] (mT n)
def c18 (n:Nat):FF Tryz.prog 18 q100 q66 1 1 [⟨.tp q30,[],[],false⟩]:=funC Tryz.func18 Tryz.call18 [(c47 n).e,(c48 n).e,(c86 n).e,(c88 n).e,(c89 n).e] [] [] [] [0] (cb n)
def Qq (n:Nat):FF Tryz.prog 47 [.ag q20] q66 1 1 [⟨.i .i64,[],[],false⟩]:=funC Tryz.func47 Tryz.call47 [(c85 n).e] [] [] [] [0] (lM n)
def SK (n:Nat):FF Tryz.prog 86 [.ag q20] q66 1 1 [⟨.tp q30,[],[],false⟩]:=funC Tryz.func86 Tryz.call86 [(c87 n).e] [] [] [] [0] (lw n)
def TG (n:Nat):FF Tryz.prog 88 [.ag q20] q66 1 1 [⟨.tp q30,[],[],false⟩]:=funC Tryz.func88 Tryz.call88 [(c140 n).e] [] [] [] [0] (mb n)
def MI (n:Nat):List (FE Tryz.prog):=[(Qq n).e,(c141 n).e,(c122 n).e,(c139 n)]
def OH (n:Nat):LP Tryz.prog Tryz.f89.ntmps:=cD (MI n) [] 0 (sb (acM [] [] Tryz.f89) 0) true ⟨[(1,.p 1 0),(5,.ws 2),(28,.rs 21 0 0 .q (some .q)),(29,.i .i64),(30,.i .i64)],q115,3,1,1,1⟩ [] [⟨.exit 0,⟨[(1,.p 1 0),(5,.ws 2)],q115,3,1,1,1⟩⟩] (me n) n
def SX (n:Nat):FF Tryz.prog 89 [.ag q20] q66 1 1 [⟨.tp q30,[],[],false⟩]:=funC Tryz.func89 Tryz.call89 (MI n) [OH n] [] [] [0] (oC n)
def SH (n:Nat):FF Tryz.prog 18 [.ag q20] q66 1 1 [⟨.tp q30,[],[],false⟩]:=funC Tryz.func18 Tryz.call18 [(Qq n).e,(c48 n).e,(SK n).e,(TG n).e,(SX n).e] [] [] [] [0] (mQ n)
def c19 (n:Nat):PF Tryz.prog 19 [.s] (.tp [.s,.i .i64,.i .i64]):=aE Tryz.func19 Tryz.call19 [(c13 n).e,altF (c18 n).e ((SH n).e) (Eq.trans (b:=18) rfl rfl)] [] [] [] (gV n)
def c20 (n:Nat):FF Tryz.prog 20 q100 q66 1 1 [⟨.s,[],[],false⟩]:=funC Tryz.func20 Tryz.call20 [(c8 n).e,(c45 n).e,(c46 n).e] [] [] [] [0] (aI n)
def c49 (n:Nat):PF Tryz.prog 49 [.s,.s] (.b):=aE Tryz.func49 Tryz.call49 [(c19 n).e] [] [] [] (kK n)
def c21E (n:Nat):List (FE Tryz.prog):=[(c19 n).e,(c49 n).e]
def Tu (n:Nat):LP Tryz.prog Tryz.f21.ntmps:=cD (c21E n) [] 0 (sb (acM [] [] Tryz.f21) 0) true ⟨[(1,.ws 0),(2,.ws 1),(3,.i .i64)],[(0,.rows [.s]),(1,.rows [.s])],2,0,0,0⟩ [] [⟨.ret,⟨[(0,.b)],[],0,0,0,0⟩⟩,⟨.exit 0,⟨[],[],0,0,0,0⟩⟩] (mc n) n
def c21 (n:Nat):PF Tryz.prog 21 [] (.b):=aE Tryz.func21 Tryz.call21 (c21E n) [Tu n] [] [] (aK n)
def c91 (n:Nat):PF Tryz.prog 91 [.ag q33] (.i .i64):=aE Tryz.func91 Tryz.call91 [(c34 n).e,(c128 n).e,(c29 n).e] [] [] [] (be n)
def c90 (n:Nat):PF Tryz.prog 90 [.ag q21,.b] (.i .i64):=aE Tryz.func90 Tryz.call90 [(c34 n).e,(c91 n).e,(c23 n).e,(c82 n).e,(c128 n).e] [] [] [] (gY n)
def c50E (n:Nat):List (FE Tryz.prog):=[(c34 n).e,(c41 n).e,(c90 n).e,(c91 n).e]
def Ta (n:Nat):LP Tryz.prog Tryz.f50.ntmps:=dY (c50E n) [] 1003 (sb (acM [] [3,4,7,32,33] Tryz.f50) 1003) true ⟨[(1,.p 1 0),(4,.p 2 0),(5,.p 3 0)],q27,4,1,1,1⟩ [⟨.nrm,q79⟩] (gj n)
def S0 (n:Nat):LP Tryz.prog Tryz.f50.ntmps:=dY (c50E n) [] 1004 (sb (acM [] [3,4,7,32,33] Tryz.f50) 1004) true q79 [⟨.nrm,⟨[(1,.p 1 0),(4,.p 2 0),(5,.p 3 0),(6,.b),(31,.b)],q27,4,1,1,1⟩⟩] (f9 n)
def SO (n:Nat):LP Tryz.prog Tryz.f50.ntmps:=dY (c50E n) [] 1007 (sb (acM [] [3,4,7,32,33] Tryz.f50) 1007) true q79 [⟨.nrm,⟨[(1,.p 1 0),(75,.b)],q77,2,1,1,1⟩⟩] (fZ n)
def SD (n:Nat):LP Tryz.prog Tryz.f50.ntmps:=dY (c50E n) [] 1032 (sb (sb (acM [] [3,4,7,32,33] Tryz.f50) 0).body 1032) true ⟨[(1,.p 1 0),(7,.i .i64),(8,.p 2 0)],q116,3,1,1,1⟩ [⟨.nrm,q78⟩] (ft n)
def Qu (n:Nat):LP Tryz.prog Tryz.f50.ntmps:=dY (c50E n) [] 1033 (sb (sb (acM [] [3,4,7,32,33] Tryz.f50) 0).body 1033) true q78 [⟨.nrm,⟨[(1,.p 1 0),(7,.i .i64),(154,.b)],q77,2,1,1,1⟩⟩] (fD n)
def S3 (n:Nat):LP Tryz.prog Tryz.f50.ntmps:=cD (c50E n) [SD n,Qu n] 0 (sb (acM [] [3,4,7,32,33] Tryz.f50) 0) true ⟨[(1,.p 1 0),(7,.i .i64)],q77,2,1,1,1⟩ [] q67 (du n) n
def c50 (n:Nat):FF Tryz.prog 50 q100 q66 1 1 [⟨.tp [.i .i64,.i .i64],[],[],false⟩]:=funC Tryz.func50 Tryz.call50 (c50E n) [Ta n,S0 n,SO n,S3 n] [] [3,4,7,32,33] [0] (i6 n)
def c22 (n:Nat):FF Tryz.prog 22 q100 q66 1 1 [⟨.i .i64,[],[],false⟩]:=funC Tryz.func22 Tryz.call22 [(c50 n).e] [] [] [] [0] (ci n)
def c6 (n:Nat):FF Tryz.prog 6 [.ag q82,.i .u8,.i .u8] [.rows q12] 1 1 [⟨.b,[],[],false⟩]:=funC Tryz.func6 Tryz.call6 [(c14 n).e,(c18 n).e,(c22 n).e,(c21 n).e,(c20 n).e] [] [] [] [0] (fj n)
end
end Go.Sh
