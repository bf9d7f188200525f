/- Each function of the program computes its plain function: the certificates.
   Conditions: none. Printed by the bench tool gen.py. -/
import Derived.Test.YtplhepcdmkbioaaGreatDoorCeB
import Derived.Test.YtplhepcdmkbioaaGreatDoorYText
set_option linter.unusedVariables false
set_option linter.unusedSimpArgs false
set_option maxRecDepth 100000
set_option maxHeartbeats 4000000
namespace Go.Sh
open Go.Abs Go.Proofs
noncomputable section
abbrev q33:List (Nat×PB):=[(0,.ints .u8 3),(1,.ints .u8 3),(2,.ints .u8 3),(3,.ints .u8 3),(4,.ints .u8 3)]
abbrev q28:List (Nat×PB):=[(1,.cells q14),(2,.rows [.s]),(3,.cells q14),(4,.cells q14)]
abbrev q18:PSt:=⟨[(5,.p 1 0),(8,.ws 2),(9,.i .i64),(10,.p 3 0),(11,.i .i64),(12,.i .i64),(13,.p 4 0),(16,.i .i64),(17,.i .i64)],q28,54,0,0,0⟩
abbrev q37:PSt:=⟨[(5,.p 1 0),(8,.ws 2),(9,.i .i64),(10,.p 3 0),(11,.i .i64),(12,.i .i64),(13,.p 4 0),(16,.i .i64),(17,.i .i64),(81,.b)],q28,54,0,0,0⟩
abbrev q63:List (Nat×PB):=[(1,.cells q14),(2,.rows [.s]),(3,.cells q14)]
noncomputable def Bi (n:Nat):Ent:=yM 36 (bh n)
theorem y6 (n:Nat):d9 Tryz.prog (Bi n):=yy Tryz.call36 (zw n) (Br n)
def c36 (n:Nat):FE Tryz.prog:=libF (y6 n)
def c37 (n:Nat):PF Tryz.prog 37 [.i .u8] (.tp q21):=ar Tryz.func37 Tryz.call37 [(c88 n).e,(c89 n).e] [] [] [] (lp n)
noncomputable def Bh (_n:Nat):Ent:=CZ 38
theorem xz (n:Nat):d9 Tryz.prog (Bh n):=AU Tryz.call38 Tryz.strings_Join_none Tryz.strings_Join
def c38 (n:Nat):FE Tryz.prog:=libF (xz n)
def c17E (n:Nat):List (FE Tryz.prog):=[(c33 n).e,(c34 n).e,(c35 n).e,(c36 n),(c37 n).e,(c38 n)]
def Gk (n:Nat):LP Tryz.prog Tryz.f17.ntmps:=bQ (c17E n) [] 0 (sb (acM [] [] Tryz.f17) 0) false ⟨[(6,.p 1 0),(7,.p 2 0),(11,.ws 3),(48,.rs 1 4 0 .q none),(49,.i .i64),(50,.i .i64)],[(1,.ints .u8 3),(2,.ints .u8 3),(3,.rows [.s]),(4,.rows [.s])],5,0,0,0⟩ [] [⟨.exit 0,⟨[(11,.ws 3)],[(3,.rows [.s])],5,0,0,0⟩⟩] (au n) n
def c17 (n:Nat):PF Tryz.prog 17 q42 (.tp q21):=ar Tryz.func17 Tryz.call17 (c17E n) [Gk n] [] [] (dA n)
def c6 (n:Nat):PF Tryz.prog 6 [.ag q14] (.tp q21):=ar Tryz.func6 Tryz.call6 [(c8 n).e,(c17 n).e] [] [] [] (km n)
def Gh (n:Nat):LP Tryz.prog Tryz.f40.ntmps:=bQ [] [] 0 (sb (acM [] [] Tryz.f40) 0) false ⟨[(1,.i .i64),(2,.p 0 0),(4,.p 1 0),(5,.p 2 0),(6,.p 3 0),(7,.p 4 0),(8,.b),(9,.i .i64)],q33,5,0,0,0⟩ [] [⟨.exit 0,⟨[(1,.i .i64),(2,.p 0 0),(4,.p 1 0),(5,.p 2 0),(6,.p 3 0),(7,.p 4 0),(8,.b)],q33,5,0,0,0⟩⟩] (iX n) n
def Gb (n:Nat):LP Tryz.prog Tryz.f40.ntmps:=bQ [] [] 1 (sb (acM [] [] Tryz.f40) 1) false ⟨[(1,.i .i64),(2,.p 0 0),(4,.p 1 0),(5,.p 2 0),(6,.p 3 0),(7,.p 4 0),(10,.i .i64)],q33,5,0,0,0⟩ [] [⟨.exit 2,⟨[(4,.p 1 0),(5,.p 2 0),(6,.p 3 0),(7,.p 4 0)],[(1,.ints .u8 3),(2,.ints .u8 3),(3,.ints .u8 3),(4,.ints .u8 3)],5,0,0,0⟩⟩] (ja n) n
def c40 (n:Nat):PF Tryz.prog 40 q53 (.tp [.ai .u8 3,.ai .u8 3]):=ar Tryz.func40 Tryz.call40 [] [Gh n,Gb n] [] [] (fM n)
def c91 (n:Nat):PF Tryz.prog 91 [.i .i64] (.s):=ar Tryz.func91 Tryz.call91 [] [] [] [] (am n)
def c42 (n:Nat):PF Tryz.prog 42 q58 (.s):=ar Tryz.func42 Tryz.call42 [(c91 n).e] [] [] [] (gu n)
def c18 (n:Nat):PF Tryz.prog 18 q42 (.s):=ar Tryz.func18 Tryz.call18 [(c39 n).e,(c40 n).e,(c41 n).e,(c42 n).e] [] [] [] (dG n)
def c7 (n:Nat):PF Tryz.prog 7 [.ag q14] (.s):=ar Tryz.func7 Tryz.call7 [(c18 n).e] [] [] [] (eP n)
def c24 (n:Nat):PF Tryz.prog 24 q21 (.tp [.ag q16,.i .i64,.ag q27]):=ar Tryz.func24 Tryz.call24 [(c52 n).e,(c53 n).e] [] [] [] (cX n)
def Gs (n:Nat):LP Tryz.prog Tryz.f25.ntmps:=bQ [] [] 0 (sb (acM [] [] Tryz.f25) 0) false ⟨[(1,.p 0 0),(3,.s),(4,.i .i64)],[(0,.cells q16)],1,0,0,0⟩ [] [⟨.ret,q49⟩,⟨.exit 0,⟨[(1,.p 0 0)],[(0,.cells q16)],1,0,0,0⟩⟩] (cj n) n
def c25 (n:Nat):PF Tryz.prog 25 q42 (.i .i64):=ar Tryz.func25 Tryz.call25 [] [Gs n] [] [] (cJ n)
def c10 (n:Nat):PF Tryz.prog 10 q21 (.tp [.ag q14,.i .i64,.ag q27]):=ar Tryz.func10 Tryz.call10 [(c24 n).e,(c25 n).e] [] [] [] (eM n)
def c3E (n:Nat):List (FE Tryz.prog):=[(c4 n).e,(c5 n).e,(c6 n).e,(c7 n).e,(c8 n).e,(c9 n).e,(c10 n).e]
def c3j6 (n:Nat):LP Tryz.prog Tryz.f3.ntmps:=jA (c3E n) [] 1006 (sb (acM [] [6,18,19,22,25,27,30] Tryz.f3) 1006) false ⟨[(0,.s),(5,.p 1 0),(6,.s),(7,.i .i64)],[(1,.cells q14)],2,0,0,0⟩ [⟨.nrm,⟨[(0,.s),(5,.p 1 0),(6,.s),(41,.b)],[(1,.cells q14)],2,0,0,0⟩⟩] (co n)
def GF (n:Nat):LP Tryz.prog Tryz.f3.ntmps:=jA (c3E n) [] 1018 (sb (sb (acM [] [6,18,19,22,25,27,30] Tryz.f3) 0).body 1018) false q18 [⟨.nrm,q37⟩] (bu n)
def GQ (n:Nat):LP Tryz.prog Tryz.f3.ntmps:=jA (c3E n) [] 1022 (sb (sb (sb (acM [] [6,18,19,22,25,27,30] Tryz.f3) 0).body 1019) 1022) false ⟨[(5,.p 1 0),(8,.ws 2),(9,.i .i64),(10,.p 3 0),(11,.i .i64),(12,.i .i64),(13,.p 4 0),(16,.i .i64),(17,.i .i64),(83,.b)],q28,54,0,0,0⟩ [⟨.nrm,q18⟩] (bZ n)
def GE (n:Nat):LP Tryz.prog Tryz.f3.ntmps:=jA (c3E n) [GQ n] 1019 (sb (sb (acM [] [6,18,19,22,25,27,30] Tryz.f3) 0).body 1019) false q37 [⟨.nrm,q18⟩] (bp n)
def F7 (n:Nat):LP Tryz.prog Tryz.f3.ntmps:=jA (c3E n) [] 1025 (sb (sb (acM [] [6,18,19,22,25,27,30] Tryz.f3) 0).body 1025) false ⟨[(5,.p 1 0),(8,.ws 2),(9,.i .i64),(10,.p 3 0),(11,.i .i64),(12,.i .i64),(13,.p 4 0),(16,.i .i64),(17,.i .i64),(85,.b)],q28,54,0,0,0⟩ [⟨.nrm,q18⟩] (bq n)
def F5 (n:Nat):LP Tryz.prog Tryz.f3.ntmps:=jA (c3E n) [] 1027 (sb (sb (acM [] [6,18,19,22,25,27,30] Tryz.f3) 0).body 1027) false q18 [⟨.nrm,⟨[(5,.p 1 0),(8,.ws 2),(9,.i .i64),(10,.p 3 0),(12,.i .i64),(108,.b)],q63,54,0,0,0⟩⟩] (br n)
def F6 (n:Nat):LP Tryz.prog Tryz.f3.ntmps:=jA (c3E n) [] 1030 (sb (sb (acM [] [6,18,19,22,25,27,30] Tryz.f3) 0).body 1030) false ⟨[(5,.p 1 0),(8,.ws 2),(9,.i .i64),(10,.p 3 0),(12,.i .i64)],q63,54,0,0,0⟩ [⟨.nrm,⟨[(5,.p 1 0),(8,.ws 2),(9,.i .i64),(115,.b)],[(1,.cells q14),(2,.rows [.s])],54,0,0,0⟩⟩] (aR n)
def c3l0 (n:Nat):LP Tryz.prog Tryz.f3.ntmps:=bQ (c3E n) [GF n,GE n,F7 n,F5 n,F6 n] 0 (sb (acM [] [6,18,19,22,25,27,30] Tryz.f3) 0) false ⟨[(5,.p 1 0),(8,.ws 2),(9,.i .i64)],[(1,.cells q14),(2,.rows [.s])],3,0,0,0⟩ [] [⟨.ret,⟨[(4,.b)],[],3,0,0,0⟩⟩,⟨.exit 0,⟨[],[],3,0,0,0⟩⟩] (aB n) n
def c3 (n:Nat):PF Tryz.prog 3 [.s,.ag q35] (.b):=ar Tryz.func3 Tryz.call3 (c3E n) [c3j6 n,c3l0 n] [] [6,18,19,22,25,27,30] (cb n)
theorem pure_circalaw17_BoundsParse (n:Nat):∀a r,cb n a.1 a.2.1 a.2.2.1 a.2.2.2.1 a.2.2.2.2.1 a.2.2.2.2.2.1 a.2.2.2.2.2.2.1 a.2.2.2.2.2.2.2.1 a.2.2.2.2.2.2.2.2.1 a.2.2.2.2.2.2.2.2.2.1 a.2.2.2.2.2.2.2.2.2.2.1 a.2.2.2.2.2.2.2.2.2.2.2=some r->f7 Tryz.prog 3 (argP [.s,.ag q35] a) (encP (.b) r):=λa r h=>(c3 n).ok a r h
end
end Go.Sh
