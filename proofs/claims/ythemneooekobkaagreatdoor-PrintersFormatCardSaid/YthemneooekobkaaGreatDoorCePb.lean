/- Each function of the program computes its plain function: the certificates.
   Conditions: none. Printed by the bench tool gen.py. -/
import Derived.Test.YthemneooekobkaaGreatDoorCePa
import Derived.Test.YthemneooekobkaaGreatDoorYText
set_option linter.unusedVariables false
set_option linter.unusedSimpArgs false
set_option maxRecDepth 100000
set_option maxHeartbeats 4000000
namespace Go.Sh
open Go.Abs Go.Proofs
noncomputable section
abbrev q112:List (Nat×PB):=[(0,.rows q11),(1,.cells q15),(2,.rows [.s])]
abbrev q113:List (Nat×PB):=[(0,.rows q11),(1,.cells q19),(2,.rows [.s])]
noncomputable def LM (n:Nat):Ent:=N3 137 (cH n)
theorem KB (n:Nat):fM Tryz.prog (LM n):=MQ Tryz.call137 (NH n) (RH n)
def c137 (n:Nat):FE Tryz.prog:=libF (KB n)
def c138 (n:Nat):PF Tryz.prog 138 [.i .u8] (.tp q29):=aQ Tryz.func138 Tryz.call138 [(c192 n).e,(c193 n).e] [] [] [] (sV n)
noncomputable def Pj (_n:Nat):Ent:=Va 139
theorem Jw (n:Nat):fM Tryz.prog (Pj n):=PL Tryz.call139 Tryz.strings_Join_none Tryz.strings_Join
def c139 (n:Nat):FE Tryz.prog:=libF (Jw n)
def c87E (n:Nat):List (FE Tryz.prog):=[(c96 n).e,(c135 n).e,(c136 n).e,(c137 n),(c138 n).e,(c139 n)]
def ZB (n:Nat):LP Tryz.prog Tryz.f87.ntmps:=dm (c87E n) [] 0 (sb (acM [] [] Tryz.f87) 0) false ⟨[(6,.p 1 0),(7,.p 2 0),(11,.ws 3),(48,.rs 1 4 0 .q none),(49,.i .i64),(50,.i .i64)],[(1,.ints .u8 3),(2,.ints .u8 3),(3,.rows [.s]),(4,.rows [.s])],5,0,0,0⟩ [] [⟨.exit 0,⟨[(11,.ws 3)],[(3,.rows [.s])],5,0,0,0⟩⟩] (aU n) n
def c87 (n:Nat):PF Tryz.prog 87 q76 (.tp q29):=aQ Tryz.func87 Tryz.call87 (c87E n) [ZB n] [] [] (cS n)
def c86 (n:Nat):FF Tryz.prog 86 q104 q68 1 1 [⟨.tp q29,[],[],false⟩]:=funC Tryz.func86 Tryz.call86 [(c87 n).e] [] [] [] [0] (jp n)
def c140 (n:Nat):PF Tryz.prog 140 [.ag q38] (.tp q29):=aQ Tryz.func140 Tryz.call140 [(c127 n).e,(c87 n).e] [] [] [] (ju n)
def c88 (n:Nat):FF Tryz.prog 88 q104 q68 1 1 [⟨.tp q29,[],[],false⟩]:=funC Tryz.func88 Tryz.call88 [(c140 n).e] [] [] [] [0] (ir n)
def c141 (n:Nat):PF Tryz.prog 141 [.ag q24] (.tp q29):=aQ Tryz.func141 Tryz.call141 [(c181 n).e,(c87 n).e] [] [] [] (gJ n)
def c89E (n:Nat):List (FE Tryz.prog):=[(c47 n).e,(c141 n).e,(c122 n).e,(c139 n)]
def ZI (n:Nat):LP Tryz.prog Tryz.f89.ntmps:=dm (c89E n) [] 0 (sb (acM [] [] Tryz.f89) 0) true ⟨[(1,.p 1 0),(5,.ws 2),(28,.ws 0),(29,.i .i64),(30,.i .i64)],q112,3,1,1,1⟩ [] [⟨.exit 0,⟨[(1,.p 1 0),(5,.ws 2)],q112,3,1,1,1⟩⟩] (cA n) n
def c89 (n:Nat):FF Tryz.prog 89 q104 q68 1 1 [⟨.tp q29,[],[],false⟩]:=funC Tryz.func89 Tryz.call89 (c89E n) [ZI n] [] [] [0] (mb n)
def c18 (n:Nat):FF Tryz.prog 18 q104 q68 1 1 [⟨.tp q29,[],[],false⟩]:=funC Tryz.func18 Tryz.call18 [(c47 n).e,(c48 n).e,(c86 n).e,(c88 n).e,(c89 n).e] [] [] [] [0] (eT n)
def Xw (n:Nat):FF Tryz.prog 47 [.ag q19] q68 1 1 [⟨.i .i64,[],[],false⟩]:=funC Tryz.func47 Tryz.call47 [(c85 n).e] [] [] [] [0] (jL n)
def Zf (n:Nat):FF Tryz.prog 86 [.ag q19] q68 1 1 [⟨.tp q29,[],[],false⟩]:=funC Tryz.func86 Tryz.call86 [(c87 n).e] [] [] [] [0] (jX n)
def Zb (n:Nat):FF Tryz.prog 88 [.ag q19] q68 1 1 [⟨.tp q29,[],[],false⟩]:=funC Tryz.func88 Tryz.call88 [(c140 n).e] [] [] [] [0] (kI n)
def Su (n:Nat):List (FE Tryz.prog):=[(Xw n).e,(c141 n).e,(c122 n).e,(c139 n)]
def U3 (n:Nat):LP Tryz.prog Tryz.f89.ntmps:=dm (Su n) [] 0 (sb (acM [] [] Tryz.f89) 0) true ⟨[(1,.p 1 0),(5,.ws 2),(28,.rs 21 0 0 .q (some .q)),(29,.i .i64),(30,.i .i64)],q113,3,1,1,1⟩ [] [⟨.exit 0,⟨[(1,.p 1 0),(5,.ws 2)],q113,3,1,1,1⟩⟩] (fY n) n
def Zv (n:Nat):FF Tryz.prog 89 [.ag q19] q68 1 1 [⟨.tp q29,[],[],false⟩]:=funC Tryz.func89 Tryz.call89 (Su n) [U3 n] [] [] [0] (na n)
def Zz (n:Nat):FF Tryz.prog 18 [.ag q19] q68 1 1 [⟨.tp q29,[],[],false⟩]:=funC Tryz.func18 Tryz.call18 [(Xw n).e,(c48 n).e,(Zf n).e,(Zb n).e,(Zv n).e] [] [] [] [0] (jP n)
def c19 (n:Nat):PF Tryz.prog 19 [.s] (.tp [.s,.i .i64,.i .i64]):=aQ Tryz.func19 Tryz.call19 [(c13 n).e,altF (c18 n).e ((Zz n).e) (Eq.trans (b:=18) rfl rfl)] [] [] [] (cw n)
def c20 (n:Nat):FF Tryz.prog 20 q104 q68 1 1 [⟨.s,[],[],false⟩]:=funC Tryz.func20 Tryz.call20 [(c8 n).e,(c45 n).e,(c46 n).e] [] [] [] [0] (eC n)
def c49 (n:Nat):PF Tryz.prog 49 [.s,.s] (.b):=aQ Tryz.func49 Tryz.call49 [(c19 n).e] [] [] [] (mz n)
def c21E (n:Nat):List (FE Tryz.prog):=[(c19 n).e,(c49 n).e]
def Zn (n:Nat):LP Tryz.prog Tryz.f21.ntmps:=dm (c21E n) [] 0 (sb (acM [] [] Tryz.f21) 0) true ⟨[(1,.ws 0),(2,.ws 1),(3,.i .i64)],[(0,.rows [.s]),(1,.rows [.s])],2,0,0,0⟩ [] [⟨.ret,⟨[(0,.b)],[],0,0,0,0⟩⟩,⟨.exit 0,⟨[],[],0,0,0,0⟩⟩] (oJ n) n
def c21 (n:Nat):PF Tryz.prog 21 [] (.b):=aQ Tryz.func21 Tryz.call21 (c21E n) [Zn n] [] [] (ku n)
def c5 (n:Nat):FF Tryz.prog 5 [.ag q79] [.rows q12] 1 1 [⟨.b,[],[],false⟩]:=funC Tryz.func5 Tryz.call5 [(c14 n).e,(c18 n).e,(c13 n).e,(c19 n).e,(c20 n).e,altF (c16 n).e ((Y7 n).e) (Eq.trans (b:=16) rfl rfl),(c21 n).e] [] [] [] [0] (gI n)
end
end Go.Sh
