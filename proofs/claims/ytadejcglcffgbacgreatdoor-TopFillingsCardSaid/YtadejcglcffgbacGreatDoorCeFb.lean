import Derived.Test.YtadejcglcffgbacGreatDoorCeFa
import Derived.Test.YtadejcglcffgbacGreatDoorYText
set_option linter.unusedVariables false
set_option linter.unusedSimpArgs false
set_option maxRecDepth 100000
set_option maxHeartbeats 4000000
namespace Go.Sh
open Go.Abs Go.Proofs
noncomputable section
abbrev q80:List (Nat×PB):=[(0,.rows q11),(1,.cells q14),(2,.rows [.s])]
abbrev q73:List (Nat×PB):=[(1,.cells [.i .i64])]
abbrev q23:List Lf:=[.bo,.bo,.s,.i .i64,.i .i64,.s,.s,.i .u8,.i .u8,.i .u8]
abbrev q79:List PX:=[⟨.exit 3,⟨[(3,.ws 1)],[(1,.rows q23)],2,1,1,1⟩⟩]
abbrev q76:List (Nat×PB):=[(1,.cells [.i .i64]),(2,.cells q24),(3,.rows q23)]
abbrev q38:PSt:=⟨[(5,.p 1 0),(6,.fn 61 [.p 1 0]),(8,.p 2 0),(9,.i .i64),(10,.b),(11,.i .i64),(12,.b),(13,.i .i64),(49,.rs 10 3 0 .q (some .q)),(50,.i .i64),(51,.i .i64)],q76,4,1,1,1⟩
abbrev q43:List PX:=[⟨.exit 2,⟨[(5,.p 1 0),(6,.fn 61 [.p 1 0]),(8,.p 2 0),(9,.i .i64),(10,.b),(12,.b),(49,.rs 10 3 0 .q (some .q)),(50,.i .i64),(51,.i .i64)],q76,4,1,1,1⟩⟩]
abbrev q53:PSt:=⟨[(5,.p 1 0),(6,.fn 61 [.p 1 0]),(49,.rs 10 2 0 .q (some .q)),(50,.i .i64),(51,.i .i64)],[(1,.cells [.i .i64]),(2,.rows q23)],3,1,1,1⟩
abbrev q81:List (Nat×PB):=[(0,.rows q11),(1,.cells q13),(2,.rows [.s])]
noncomputable def ES(n:Nat):Ent:=Et 159 (bw n)
theorem Ce(n:Nat):cN Tryz.prog (ES n):=C0 Tryz.call159 (Ff n) (Gu n)
def c159(n:Nat):FE Tryz.prog:=libF (Ce n)
def c160(n:Nat):PF Tryz.prog 160 [.i .u8] (.tp q21):=aB Tryz.func160 Tryz.call160 [(c186 n).e,(c220 n).e] [] [] [] (pM n)
noncomputable def D3(_n:Nat):Ent:=Ks 161
theorem BQ(n:Nat):cN Tryz.prog (D3 n):=Ha Tryz.call161 Tryz.strings_Join_none Tryz.strings_Join
def c161(n:Nat):FE Tryz.prog:=libF (BQ n)
def Me(n:Nat):List (FE Tryz.prog):=[(c84 n).e,(c62 n).e,(c158 n).e,(c159 n),(c160 n).e,(c161 n)]
def Lu(n:Nat):LP Tryz.prog Tryz.f105.ntmps:=cr (Me n) [] 0 (sb (acM [] [] Tryz.f105) 0) false ⟨[(6,.p 1 0),(7,.p 2 0),(11,.ws 3),(48,.rs 1 4 0 .q none),(49,.i .i64),(50,.i .i64)],[(1,.ints .u8 3),(2,.ints .u8 3),(3,.rows [.s]),(4,.rows [.s])],5,0,0,0⟩ [] [⟨.exit 0,⟨[(11,.ws 3)],[(3,.rows [.s])],5,0,0,0⟩⟩] (iO n) n
def c105(n:Nat):PF Tryz.prog 105 q64 (.tp q21):=aB Tryz.func105 Tryz.call105 (Me n) [Lu n] [] [] (fC n)
def c104(n:Nat):FF Tryz.prog 104 q78 q52 1 1 [⟨.tp q21,[],[],false⟩]:=funC Tryz.func104 Tryz.call104 [(c105 n).e] [] [] [] [0] (kx n)
def c162(n:Nat):PF Tryz.prog 162 [.ag q48] (.tp q21):=aB Tryz.func162 Tryz.call162 [(c155 n).e,(c105 n).e] [] [] [] (kr n)
def c106(n:Nat):FF Tryz.prog 106 q78 q52 1 1 [⟨.tp q21,[],[],false⟩]:=funC Tryz.func106 Tryz.call106 [(c162 n).e] [] [] [] [0] (la n)
def c163(n:Nat):PF Tryz.prog 163 [.ag q19] (.tp q21):=aB Tryz.func163 Tryz.call163 [(c210 n).e,(c105 n).e] [] [] [] (kL n)
def LM(n:Nat):List (FE Tryz.prog):=[(c59 n).e,(c163 n).e,(c147 n).e,(c161 n)]
def K3(n:Nat):LP Tryz.prog Tryz.f107.ntmps:=cr (LM n) [] 0 (sb (acM [] [] Tryz.f107) 0) true ⟨[(1,.p 1 0),(5,.ws 2),(28,.ws 0),(29,.i .i64),(30,.i .i64)],q80,3,1,1,1⟩ [] [⟨.exit 0,⟨[(1,.p 1 0),(5,.ws 2)],q80,3,1,1,1⟩⟩] (lM n) n
def c107(n:Nat):FF Tryz.prog 107 q78 q52 1 1 [⟨.tp q21,[],[],false⟩]:=funC Tryz.func107 Tryz.call107 (LM n) [K3 n] [] [] [0] (pT n)
def c29(n:Nat):FF Tryz.prog 29 q78 q52 1 1 [⟨.tp q21,[],[],false⟩]:=funC Tryz.func29 Tryz.call29 [(c59 n).e,(c60 n).e,(c104 n).e,(c106 n).e,(c107 n).e] [] [] [] [0] (kh n)
def ND(n:Nat):LP Tryz.prog Tryz.f61.ntmps:=cr [] [] 0 (sb (acM [] [] Tryz.f61) 0) true ⟨[(1,.p 1 0),(5,.ws 0),(6,.i .i64),(7,.i .i64)],[(0,.rows [.i .i64,.bo]),(1,.cells [.i .i64])],2,2,1,2⟩ [] [⟨.exit 0,⟨[],q73,2,2,1,2⟩⟩] (jA n) n
def c61(n:Nat):FF Tryz.prog 61 [.ws 0,.p 1 0] [.rows [.i .i64,.bo],.cells [.i .i64]] 1 2 [⟨.tp [],q73,[],false⟩]:=funC Tryz.func61 Tryz.call61 [] [ND n] [] [] [0,1] (aq n)
def c64(n:Nat):FF Tryz.prog 64 [.ws 0] [.rows q23] 1 1 [⟨.rs 10 0 0 .q (some .q),[],[],false⟩]:=funC Tryz.func64 Tryz.call64 [] [] [] [] [0] (ak n)
def c31E(n:Nat):List (FE Tryz.prog):=[(c64 n).e]
def NW(n:Nat):LP Tryz.prog Tryz.f31.ntmps:=cr (c31E n) [] 1 (sb (acM [0] [] Tryz.f31) 1) true ⟨[(3,.ws 1),(40,.ws 0),(41,.i .i64),(42,.i .i64)],[(0,.rows q11),(1,.rows q23)],2,1,1,1⟩ [] q79 (kI n) n
def c31(n:Nat):FF Tryz.prog 31 q78 q52 1 1 [⟨.rs 10 1 0 .q (some .q),[(1,.rows q23)],[1],false⟩]:=funC Tryz.func31 Tryz.call31 (c31E n) [NW n] [0] [] [0] (eQ n)
def c30E(n:Nat):List (FE Tryz.prog):=[(c59 n).e,(c61 n).e,(c31 n).e,(c51 n).e,(c62 n).e,(c63 n).e]
def N3(n:Nat):LP Tryz.prog Tryz.f30.ntmps:=cr (c30E n) [] 1 (sb (sb (acM [] [] Tryz.f30) 0).body 1) true q38 [] q43 (ky n) n
def NG(n:Nat):LP Tryz.prog Tryz.f30.ntmps:=cr (c30E n) [N3 n] 0 (sb (acM [] [] Tryz.f30) 0) true q53 [] [⟨.exit 0,⟨[(5,.p 1 0)],q73,2,1,1,1⟩⟩] (cg n) n
def c30(n:Nat):FF Tryz.prog 30 q78 q52 1 1 [⟨.tp [.i .i64,.i .i64],[],[],false⟩]:=funC Tryz.func30 Tryz.call30 (c30E n) [NG n] [] [] [0] (kl n)
def JV(n:Nat):FF Tryz.prog 59 q77 q52 1 1 [⟨.i .i64,[],[],false⟩]:=funC Tryz.func59 Tryz.call59 [(c103 n).e] [] [] [] [0] (ii n)
def Lo(n:Nat):FF Tryz.prog 104 q77 q52 1 1 [⟨.tp q21,[],[],false⟩]:=funC Tryz.func104 Tryz.call104 [(c105 n).e] [] [] [] [0] (jD n)
def Lj(n:Nat):FF Tryz.prog 106 q77 q52 1 1 [⟨.tp q21,[],[],false⟩]:=funC Tryz.func106 Tryz.call106 [(c162 n).e] [] [] [] [0] (ke n)
def F6(n:Nat):List (FE Tryz.prog):=[(JV n).e,(c163 n).e,(c147 n).e,(c161 n)]
def G8(n:Nat):LP Tryz.prog Tryz.f107.ntmps:=cr (F6 n) [] 0 (sb (acM [] [] Tryz.f107) 0) true ⟨[(1,.p 1 0),(5,.ws 2),(28,.rs 21 0 0 .q (some .q)),(29,.i .i64),(30,.i .i64)],q81,3,1,1,1⟩ [] [⟨.exit 0,⟨[(1,.p 1 0),(5,.ws 2)],q81,3,1,1,1⟩⟩] (kj n) n
def L8(n:Nat):FF Tryz.prog 107 q77 q52 1 1 [⟨.tp q21,[],[],false⟩]:=funC Tryz.func107 Tryz.call107 (F6 n) [G8 n] [] [] [0] (mn n)
def NK(n:Nat):FF Tryz.prog 29 q77 q52 1 1 [⟨.tp q21,[],[],false⟩]:=funC Tryz.func29 Tryz.call29 [(JV n).e,(c60 n).e,(Lo n).e,(Lj n).e,(L8 n).e] [] [] [] [0] (iL n)
def IS(n:Nat):List (FE Tryz.prog):=[(c64 n).e]
def JG(n:Nat):LP Tryz.prog Tryz.f31.ntmps:=cr (IS n) [] 1 (sb (acM [0] [] Tryz.f31) 1) true ⟨[(3,.ws 1),(40,.rs 21 0 0 .q (some .q)),(41,.i .i64),(42,.i .i64)],[(0,.rows q11),(1,.rows q23)],2,1,1,1⟩ [] q79 (jw n) n
def MV(n:Nat):FF Tryz.prog 31 q77 q52 1 1 [⟨.rs 10 1 0 .q (some .q),[(1,.rows q23)],[1],false⟩]:=funC Tryz.func31 Tryz.call31 (IS n) [JG n] [0] [] [0] (df n)
def Df(n:Nat):List (FE Tryz.prog):=[(JV n).e,(c61 n).e,(MV n).e,(c51 n).e,(c62 n).e,(c63 n).e]
def Jr(n:Nat):LP Tryz.prog Tryz.f30.ntmps:=cr (Df n) [] 1 (sb (sb (acM [] [] Tryz.f30) 0).body 1) true q38 [] q43 (jy n) n
def Kv(n:Nat):LP Tryz.prog Tryz.f30.ntmps:=cr (Df n) [Jr n] 0 (sb (acM [] [] Tryz.f30) 0) true q53 [] [⟨.exit 0,⟨[(5,.p 1 0)],q73,2,1,1,1⟩⟩] (bF n) n
def NP(n:Nat):FF Tryz.prog 30 q77 q52 1 1 [⟨.tp [.i .i64,.i .i64],[],[],false⟩]:=funC Tryz.func30 Tryz.call30 (Df n) [Kv n] [] [] [0] (iK n)
def c7(n:Nat):PF Tryz.prog 7 [] (.b):=aB Tryz.func7 Tryz.call7 [(c28 n).e,altF (c29 n).e ((NK n).e) (Eq.trans (b:=29) rfl rfl),altF (c30 n).e ((NP n).e) (Eq.trans (b:=30) rfl rfl),altF (c31 n).e ((MV n).e) (Eq.trans (b:=31) rfl rfl),(c5 n).e,(c32 n).e] [] [] [] (cO n)
def c8(n:Nat):PF Tryz.prog 8 [.ag q20,.ag q22] (.tp [.ag q22,.b,.i .i64]):=aB Tryz.func8 Tryz.call8 [(c22 n).e,(c23 n).e,(c33 n).e] [] [] [] (bD n)
def c73(n:Nat):PF Tryz.prog 73 [.i .i64] (.b):=aB Tryz.func73 Tryz.call73 [] [] [] [] (jN n)
def c36(n:Nat):PF Tryz.prog 36 [.i .i64,.i .i64] (.i .i64):=aB Tryz.func36 Tryz.call36 [(c73 n).e] [] [] [] (fL n)
def c9(n:Nat):PF Tryz.prog 9 [.ag q22,.ag q22] (.i .i64):=aB Tryz.func9 Tryz.call9 [(c35 n).e,(c36 n).e,(c34 n).e] [] [] [] (dt n)
def c11E(n:Nat):List (FE Tryz.prog):=[(c38 n).e,(c39 n).e,(c40 n).e]
def NS(n:Nat):LP Tryz.prog Tryz.f11.ntmps:=cr (c11E n) [] 0 (sb (acM [] [] Tryz.f11) 0) false ⟨[(5,.p 0 0),(21,.p 1 0)],[(0,.ints .u8 18),(1,.iter)],2,0,0,0⟩ [] [⟨.ret,⟨[(4,.b)],[],2,0,0,0⟩⟩,⟨.exit 0,⟨[],[],2,0,0,0⟩⟩] (g9 n) n
def c11(n:Nat):PF Tryz.prog 11 q21 (.b):=aB Tryz.func11 Tryz.call11 (c11E n) [NS n] [] [] (lj n)
def c125(n:Nat):FF Tryz.prog 125 [.i .i64,.p 0 0] [.cells [.i .i64]] 1 1 [⟨.b,[],[],false⟩]:=funC Tryz.func125 Tryz.call125 [(c120 n).e] [] [] [] [0] (na n)
def Lm(n:Nat):List (FE Tryz.prog):=[(c125 n).e]
def LO(n:Nat):LP Tryz.prog Tryz.f124.ntmps:=cr (Lm n) [] 0 (sb (acM [] [] Tryz.f124) 0) false ⟨[(1,.fn 125 [.p 0 0]),(5,.i .i64),(6,.i .i64)],[(0,.cells [.i .i64])],1,1,1,1⟩ [] [⟨.exit 0,⟨[(5,.i .i64)],[],1,1,1,1⟩⟩] (bC n) n
def c124(n:Nat):FF Tryz.prog 124 [.i .i64,.fn 125 [.p 0 0]] [.cells [.i .i64]] 1 1 [⟨.i .i64,[],[],false⟩]:=funC Tryz.func124 Tryz.call124 (Lm n) [LO n] [] [] [0] (lz n)
def c78(n:Nat):PF Tryz.prog 78 [.i .i64] (.tp [.i .i64,.i .i64]):=aB Tryz.func78 Tryz.call78 [(c122 n).e,(c123 n).e,(c124 n).e,(c119 n).e] [] [] [] (rN n)
def c42E(n:Nat):List (FE Tryz.prog):=[(c78 n).e,(c76 n).e,(c77 n)]
def NA(n:Nat):LP Tryz.prog Tryz.f42.ntmps:=cr (c42E n) [] 0 (sb (acM [] [] Tryz.f42) 0) false ⟨[(2,.i .i64),(7,.i .i64),(26,.i .i64)],[],0,0,0,0⟩ [] [⟨.ret,⟨[(2,.i .i64),(3,.i .i64),(4,.i .i64)],[],0,0,0,0⟩⟩,⟨.exit 0,⟨[],[],0,0,0,0⟩⟩] (eD n) n
def c42(n:Nat):PF Tryz.prog 42 [.i .i64] (.tp q22):=aB Tryz.func42 Tryz.call42 (c42E n) [NA n] [] [] (pu n)
def c13(n:Nat):PF Tryz.prog 13 [.i .i64] (.tp [.ag q22,.i .i64]):=aB Tryz.func13 Tryz.call13 [(c42 n).e,(c41 n).e] [] [] [] (ks n)
def Ip(_n:Nat):Ent:=fmtE 80
theorem F4(n:Nat):cN Tryz.prog (Ip n):=Jp Tryz.call80 G3
def c80(n:Nat):FE Tryz.prog:=libF (F4 n)
def c44(n:Nat):PF Tryz.prog 44 [.i .i64] (.s):=aB Tryz.func44 Tryz.call44 [(c80 n)] [] [] [] (jo n)
def c79(n:Nat):PF Tryz.prog 79 [.s,.sk [45]] (.tp [.s,.b]):=aB Tryz.func79 Tryz.call79 [(IL n).e] [] [] [] (dV n)
def c43(n:Nat):PF Tryz.prog 43 [.s,.sk [45]] (.tp [.s,.b]):=aB Tryz.func43 Tryz.call43 [(c79 n).e] [] [] [] (fZ n)
def G5(_n:Nat):Ent:=repE 81
theorem Em(n:Nat):cN Tryz.prog (G5 n):=Kz Tryz.call81 λs c w h1 h2=>Tryz.strings_Repeat s c w h1 h2
def c81(n:Nat):FE Tryz.prog:=libF (Em n)
def c45(n:Nat):PF Tryz.prog 45 q21 (.s):=aB Tryz.func45 Tryz.call45 [(c81 n)] [] [] [] (dn n)
def c14(n:Nat):PF Tryz.prog 14 [.ag q22] (.tp q21):=aB Tryz.func14 Tryz.call14 [(c15 n).e,(c44 n).e,(c43 n).e,(c45 n).e] [] [] [] (gK n)
def c16(n:Nat):PF Tryz.prog 16 [.ag q20,.ag q22] (.b):=aB Tryz.func16 Tryz.call16 [(c8 n).e] [] [] [] (eG n)
def c3E(n:Nat):List (FE Tryz.prog):=[(c4 n).e,(c5 n).e,(c6 n).e,(c7 n).e,(c8 n).e,(c9 n).e,(c10 n).e,(c11 n).e,(c12 n).e,(c13 n).e,(c14 n).e,(c15 n).e,(c16 n).e]
def c3l0(n:Nat):LP Tryz.prog Tryz.f3.ntmps:=cr (c3E n) [] 0 (sb (acM [] [] Tryz.f3) 0) true ⟨[(1,.i .u16),(5,.p 0 0),(6,.i .i64),(10,.p 1 0),(11,.i .i64)],[(0,.cells q24),(1,.cells q22)],2,0,0,0⟩ [] [⟨.ret,⟨[(4,.b)],[],0,0,0,0⟩⟩,⟨.exit 0,⟨[(5,.p 0 0),(10,.p 1 0)],[(0,.cells q24),(1,.cells q22)],2,0,0,0⟩⟩] (aO n) n
def c3(n:Nat):PF Tryz.prog 3 [.ag q34,.i .u16] (.b):=aB Tryz.func3 Tryz.call3 (c3E n) [c3l0 n] [] [] (cY n)
theorem pure_circatop_TopFillings(n:Nat):∀a r,cY n a.1 a.2.1 a.2.2.1 a.2.2.2.1 a.2.2.2.2.1 a.2.2.2.2.2.1 a.2.2.2.2.2.2.1 a.2.2.2.2.2.2.2.1 a.2.2.2.2.2.2.2.2.1 a.2.2.2.2.2.2.2.2.2.1 a.2.2.2.2.2.2.2.2.2.2=some r->il Tryz.prog 3 (argP [.ag q34,.i .u16] a) (encP (.b) r):=λa r h=>(c3 n).ok a r h
end
end Go.Sh
