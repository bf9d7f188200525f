/- Each function of the program computes its plain function: the certificates.
   Conditions: none. Printed by the bench tool gen.py. -/
import Derived.Test.YtaogbalpingjhaaGreatDoorCeSa
import Derived.Test.YtaogbalpingjhaaGreatDoorPShape
set_option linter.unusedVariables false
set_option linter.unusedSimpArgs false
set_option maxRecDepth 100000
set_option maxHeartbeats 4000000
namespace Go.Sh
open Go.Abs Go.Proofs
noncomputable section
abbrev q18:List PV:=[.p 2 0,.i .u8,.bd,.b,.s,.i .i64,.i .i64,.s,.s,.i .u8,.i .u8,.i .u8,.i .u8,.bd,.b,.s,.i .i64,.i .i64,.s,.s,.i .u8,.i .u8,.i .u8,.i .u8,.bd,.b,.s,.i .i64,.i .i64,.s,.s,.i .u8,.i .u8,.i .u8,.ws 0,.b,.b,.i .i64]
abbrev q50:List (Nat×PB):=[(1,.cells q18),(2,.cells q21)]
abbrev q41:List PV:=[.pn,.i .u8,.bd,.b,.s,.i .i64,.i .i64,.s,.s,.i .u8,.i .u8,.i .u8,.i .u8,.bd,.b,.s,.i .i64,.i .i64,.s,.s,.i .u8,.i .u8,.i .u8,.i .u8,.bd,.b,.s,.i .i64,.i .i64,.s,.s,.i .u8,.i .u8,.i .u8,.ws 0,.b,.b,.i .i64]
abbrev q33:List (Nat×PB):=[(1,.cells [.p 2 0,.i .u8,.bd,.b,.s,.i .i64,.i .i64,.s,.s,.i .u8,.i .u8,.i .u8,.i .u8,.bd,.b,.s,.i .i64,.i .i64,.s,.s,.i .u8,.i .u8,.i .u8,.i .u8,.bd,.b,.s,.i .i64,.i .i64,.s,.s,.i .u8,.i .u8,.i .u8,.rs 21 3 0 .q (some .q),.b,.b,.i .i64]),(2,.cells q21),(3,.rows q11)]
abbrev q35:List (Nat×PB):=[(1,.cells [.p 2 0,.i .u8,.bd,.b,.s,.i .i64,.i .i64,.s,.s,.i .u8,.i .u8,.i .u8,.i .u8,.bd,.b,.s,.i .i64,.i .i64,.s,.s,.i .u8,.i .u8,.i .u8,.i .u8,.bd,.b,.s,.i .i64,.i .i64,.s,.s,.i .u8,.i .u8,.i .u8,.ws 3,.b,.b,.i .i64]),(2,.cells q21),(3,.rows q11)]
abbrev q14:List PV:=[.i .u8,.bd,.b,.s,.i .i64,.i .i64,.s,.s,.i .u8,.i .u8,.i .u8,.i .u8,.bd,.b,.s,.i .i64,.i .i64,.s,.s,.i .u8,.i .u8,.i .u8,.i .u8,.bd,.b,.s,.i .i64,.i .i64,.s,.s,.i .u8,.i .u8,.i .u8,.ws 0,.b,.b]
abbrev q78:List PV:=[.ag q14]
abbrev q47:List PV:=[.i .u8,.bd,.b,.s,.i .i64,.i .i64,.s,.s,.i .u8,.i .u8,.i .u8,.i .u8,.bd,.b,.s,.i .i64,.i .i64,.s,.s,.i .u8,.i .u8,.i .u8,.i .u8,.bd,.b,.s,.i .i64,.i .i64,.s,.s,.i .u8,.i .u8,.i .u8,.ws 2,.b,.b]
abbrev q65:PSt:=⟨[(0,.sl 0 0 .q (some .q)),(3,.i .u8),(4,.i .i64)],[(0,.ints .u8 3)],1,1,1,1⟩
abbrev q81:List (Nat×PB):=[(0,.rows q11),(1,.cells q14),(2,.rows [.s])]
abbrev q82:List (Nat×PB):=[(0,.rows q11),(1,.cells q13),(2,.rows [.s])]
abbrev q73:List (Nat×PB):=[(1,.cells [.i .i64])]
abbrev q22:List Lf:=[.bo,.bo,.s,.i .i64,.i .i64,.s,.s,.i .u8,.i .u8,.i .u8]
abbrev q79:List PX:=[⟨.exit 3,⟨[(3,.ws 1)],[(1,.rows q22)],2,1,1,1⟩⟩]
abbrev q76:List (Nat×PB):=[(1,.cells [.i .i64]),(2,.cells q23),(3,.rows q22)]
abbrev q38:PSt:=⟨[(5,.p 1 0),(6,.fn 94 [.p 1 0]),(8,.p 2 0),(9,.i .i64),(10,.b),(11,.i .i64),(12,.b),(13,.i .i64),(49,.rs 10 3 0 .q (some .q)),(50,.i .i64),(51,.i .i64)],q76,4,1,1,1⟩
abbrev q43:List PX:=[⟨.exit 2,⟨[(5,.p 1 0),(6,.fn 94 [.p 1 0]),(8,.p 2 0),(9,.i .i64),(10,.b),(12,.b),(49,.rs 10 3 0 .q (some .q)),(50,.i .i64),(51,.i .i64)],q76,4,1,1,1⟩⟩]
abbrev q53:PSt:=⟨[(5,.p 1 0),(6,.fn 94 [.p 1 0]),(49,.rs 10 2 0 .q (some .q)),(50,.i .i64),(51,.i .i64)],[(1,.cells [.i .i64]),(2,.rows q22)],3,1,1,1⟩
abbrev q28:List (Nat×PB):=[(1,.rows [.i .i64]),(2,.rows [.i .i64]),(3,.cells [.b,.b,.s,.i .i64,.i .i64,.s,.s,.i .u8,.i .u8,.i .u8,.ws 1,.ws 2])]
abbrev q61:PSt:=⟨[(5,.p 3 0),(8,.i .i64),(9,.i .i64),(63,.ws 1),(64,.i .i64),(65,.i .i64)],q28,4,0,0,0⟩
def GQ (_n:Nat):Ent:=GV 236
theorem FX (n:Nat):dT Tryz.prog (GQ n):=Hu Tryz.call236 KX
def c236 (n:Nat):FE Tryz.prog:=libF (FX n)
def L8 (n:Nat):LP Tryz.prog Tryz.f144.ntmps:=dn [] [] 0 (sb (acM [] [] Tryz.f144) 0) false ⟨[(0,.ws 0),(1,.s),(7,.i .i64),(8,.i .i64)],[(0,.rows [.s])],1,1,1,1⟩ [] q72 (aT n) n
def Qw (n:Nat):FF Tryz.prog 144 [.ws 0,.s] [.rows [.s]] 1 1 [⟨.i .i64,[],[],false⟩]:=funC Tryz.func144 Tryz.call144 [] [L8 n] [] [] [0] (dJ n)
def c235 (n:Nat):FF Tryz.prog 235 [.ws 0,.s] [.rows [.s]] 1 1 [⟨.b,[],[],false⟩]:=funC Tryz.func235 Tryz.call235 [(Qw n).e] [] [] [] [0] (cu n)
def JA (_n:Nat):Ent:=Ny 237
theorem FW (n:Nat):dT Tryz.prog (JA n):=Ho Tryz.call237 λs c w h1 h2 h3 h4=>Tryz.strings_ContainsAny_laid s c w h1 h2 h3 h4
def c237 (n:Nat):FE Tryz.prog:=libF (FW n)
def Q9 (n:Nat):PF Tryz.prog 232 [.s,.sk [89]] (.b):=aK Tryz.func232 Tryz.call232 [] [] [] [] (dW n)
def Sl (n:Nat):PF Tryz.prog 196 [.s,.sk [89]] (.b):=aK Tryz.func196 Tryz.call196 [(Q9 n).e] [] [] [] (bZ n)
def c199 (n:Nat):PF Tryz.prog 199 [.s,.ag q23] (.i .i64):=aK Tryz.func199 Tryz.call199 [(c64 n).e,(c233 n),(c234 n).e,(c95 n).e,(c236 n),(c235 n).e,(c237 n),(Sl n).e] [] [] [] (jJ n)
def c153 (n:Nat):FF Tryz.prog 153 [.p 1 0] [.rows q11,.cells q18,.cells q21] 1 3 [⟨.it 131 (.ag [.i .i64,.i .i64]),q50,[],true⟩,⟨.tp [.ag q23,.i .i64],q50,[],false⟩]:=funC Tryz.func153 Tryz.call153 [(c143 n).e,(c197 n).e,(c199 n).e,(M7 n).e] [] [] [] [1,2,0] (cD n)
def c154 (n:Nat):FF Tryz.prog 154 [.p 0 0,.ag q23,.i .i64] [.cells [.p 1 0,.i .u8,.bd,.b,.s,.i .i64,.i .i64,.s,.s,.i .u8,.i .u8,.i .u8,.i .u8,.bd,.b,.s,.i .i64,.i .i64,.s,.s,.i .u8,.i .u8,.i .u8,.i .u8,.bd,.b,.s,.i .i64,.i .i64,.s,.s,.i .u8,.i .u8,.i .u8,.ws 2,.b,.b,.i .i64],.cells q21,.rows q11] 3 3 [⟨.it 131 (.ag [.i .i64,.i .i64]),[],[],true⟩,⟨.ag [.i .u8,.bd,.b,.s,.i .i64,.i .i64,.s,.s,.i .u8,.i .u8,.i .u8],[],[],false⟩]:=funC Tryz.func154 Tryz.call154 [(c200 n).e,(c146 n).e] [] [] [] [0,1,2] (cf n)
def c151 (n:Nat):FF Tryz.prog 151 [.p 1 0] [.rows q11,.cells q18,.cells q21] 1 3 [⟨.tp [],q50,[],false⟩,⟨.it 131 (.ag [.i .i64,.i .i64]),q50,[],true⟩]:=funC Tryz.func151 Tryz.call151 [(c75 n).e,(M7 n).e,(c84 n).e,(c153 n).e,(c154 n).e,(c156 n).e,(c146 n).e] [] [] [] [1,2,0] (ej n)
def c88 (n:Nat):FF Tryz.prog 88 [.p 1 0,.p 2 0] [.rows q11,.cells q41,.cells q21] 1 3 [⟨.it 131 (.ag [.i .i64,.i .i64]),q50,[],true⟩,⟨.tp [],q33,[3],false⟩,⟨.tp [],q50,[],false⟩,⟨.tp [],q35,[3],false⟩]:=funC Tryz.func88 Tryz.call88 [(c75 n).e,(c149 n).e,(c150 n).e,(c84 n).e,(c151 n).e,(c152 n).e,(c153 n).e,(c154 n).e] [] [] [] [1,2,0] (gj n)
def TJ (n:Nat):FF Tryz.prog 38 [.s,.fn 1000088 [.p 1 0]] [.rows q11,.cells q41] 1 2 [⟨.tp [.i .i64,.i .i64],q50,[2],false⟩,⟨.tp [.i .i64,.i .i64],q33,[2,3],false⟩,⟨.tp [.i .i64,.i .i64],q35,[2,3],false⟩]:=funD ⟨(acM [] [] Tryz.f38),2,3,0,9,73,5⟩ Tryz.func38 Tryz.call38 Tryz.func73 Tryz.call73 [(c88 n).e] [] [] [] [1,0] (dp n) (by kernel_rfl) (by kernel_rfl) (by kernel_rfl) (by kernel_rfl)
def c42 (n:Nat):FF Tryz.prog 42 [.s] [] 0 0 [⟨.tp [.ag q14,.i .i64,.i .i64,.i .i64],[(0,.rows q11)],[0],false⟩,⟨.tp [.ag q13,.i .i64,.i .i64,.i .i64],[(0,.rows q11)],[0],false⟩]:=funC Tryz.func42 Tryz.call42 [(TJ n).e] [] [] [] [] (ge n)
def Q4 (n:Nat):FF Tryz.prog 155 q78 q52 1 1 [⟨.b,[],[],false⟩]:=funC Tryz.func155 Tryz.call155 [] [] [] [] [0] (kC n)
def QV (n:Nat):FF Tryz.prog 203 q69 [.cells q20,.cells q47,.rows q11] 3 3 [⟨.b,[],[],false⟩]:=funC Tryz.func203 Tryz.call203 [(c202 n).e] [] [] [] [0,1,2] (mX n)
def Qh (n:Nat):FF Tryz.prog 204 [.p 0 0,.p 1 0,.p 2 0] [.cells [.i .u8,.bd,.b,.s,.i .i64,.i .i64,.s,.s,.i .u8,.i .u8,.i .u8,.i .u8,.bd,.b,.s,.i .i64,.i .i64,.s,.s,.i .u8,.i .u8,.i .u8,.i .u8,.bd,.b,.s,.i .i64,.i .i64,.s,.s,.i .u8,.i .u8,.i .u8,.ws 3,.b,.b],.cells [.i .i64],.cells q20,.rows q11] 4 4 [⟨.b,[],[],false⟩]:=funC Tryz.func204 Tryz.call204 [(c205 n).e] [] [] [] [0,1,2,3] (mZ n)
def Sz (n:Nat):FF Tryz.prog 206 [.p 0 0,.p 1 0,.p 2 0,.p 3 0] [.cells q45,.cells [.i .i64],.cells [.i .i64],.cells q20,.rows q11] 5 5 [⟨.b,[],[],false⟩]:=funC Tryz.func206 Tryz.call206 [(c205 n).e] [] [] [] [0,1,2,3,4] (nc n)
def RU (n:Nat):FF Tryz.prog 207 q69 [.cells q47,.cells [.i .i64],.rows q11] 3 3 [⟨.b,[],[],false⟩]:=funC Tryz.func207 Tryz.call207 [] [] [] [] [0,1,2] (ny n)
def RA (n:Nat):FF Tryz.prog 201 [.sl 0 0 4 (some (.k 4))] [.cells q51,.cells q20,.cells q46,.cells [.i .i64],.cells [.i .i64],.rows q11] 6 6 [⟨.i .i64,[],[],false⟩]:=funC Tryz.func201 Tryz.call201 [(QV n).e,(Qh n).e,(Sz n).e,(RU n).e] [] [0] [] [0,1,2,3,4,5] (fa n)
def Ix (n:Nat):List (FE Tryz.prog):=[(c202 n).e,(RA n).e]
def Lc (n:Nat):LP Tryz.prog Tryz.f157.ntmps:=dn (Ix n) [] 0 (sb (acM [] [] Tryz.f157) 0) true ⟨[(1,.p 1 0),(4,.p 2 0),(13,.ws 0),(14,.i .i64),(15,.i .i64)],[(0,.rows q11),(1,.cells q14),(2,.cells [.i .i64])],3,1,1,1⟩ [] q68 (ee n) n
def Q5 (n:Nat):FF Tryz.prog 157 q78 q52 1 1 [⟨.tp [.i .i64,.i .i64],[],[],false⟩]:=funC Tryz.func157 Tryz.call157 (Ix n) [Lc n] [] [] [0] (jF n)
def SK (n:Nat):FF Tryz.prog 89 q78 q52 1 1 [⟨.tp [.i .i64,.i .i64],[],[],false⟩]:=funC Tryz.func89 Tryz.call89 [(Q4 n).e,(c50 n).e,(c156 n).e,(Q5 n).e] [] [] [] [0] (jE n)
def c43 (n:Nat):FF Tryz.prog 43 q78 q52 1 1 [⟨.i .i64,[],[],false⟩]:=funC Tryz.func43 Tryz.call43 [(SK n).e] [] [] [] [0] (fq n)
def c44 (n:Nat):FF Tryz.prog 44 [] [] 0 0 [⟨.mp 0,[(0,.mp .u8 [(1,90),(2,92),(3,93),(4,93)])],[0],false⟩]:=funC Tryz.func44 Tryz.call44 [] [] [] [] [] (iM n)
def RZ (n:Nat):LP Tryz.prog Tryz.f208.ntmps:=dn [] [] 0 (sb (acM [] [] Tryz.f208) 0) false q65 [] [⟨.exit 0,⟨[(3,.i .u8)],[],1,1,1,1⟩⟩] (iC n) n
def c208 (n:Nat):FF Tryz.prog 208 [.sl 0 0 .q (some .q)] [.ints .u8 3] 1 1 [⟨.it 9 (.s),[],[],true⟩,⟨.i .u8,[],[],false⟩]:=funC Tryz.func208 Tryz.call208 [] [RZ n] [] [] [0] (jy n)
def Rn (n:Nat):LP Tryz.prog Tryz.f209.ntmps:=dn [] [] 0 (sb (acM [] [] Tryz.f209) 0) false q65 [] [⟨.exit 0,⟨[(3,.i .u8)],[],1,1,1,1⟩⟩] (iE n) n
def c209 (n:Nat):FF Tryz.prog 209 [.sl 0 0 .q (some .q)] [.ints .u8 3] 1 1 [⟨.it 9 (.s),[],[],true⟩,⟨.i .u8,[],[],false⟩]:=funC Tryz.func209 Tryz.call209 [] [Rn n] [] [] [0] (jB n)
def c158 (n:Nat):PF Tryz.prog 158 [.ai .u8 3,.i .i64] (.tp [.ai .u8 3,.ai .u8 3,.i .i64]):=aK Tryz.func158 Tryz.call158 [(c36 n).e,(c208 n).e,(c209 n).e] [] [] [] (nr n)
noncomputable def Hy (_n:Nat):Ent:=Oa 159
theorem FC (n:Nat):dT Tryz.prog (Hy n):=Lq Tryz.call159 Tryz.strings_Join_none Tryz.strings_Join
def c159 (n:Nat):FE Tryz.prog:=libF (FC n)
def c91E (n:Nat):List (FE Tryz.prog):=[(c41 n).e,(c6 n).e,(c158 n).e,(c7 n),(c8 n).e,(c159 n)]
def Tu (n:Nat):LP Tryz.prog Tryz.f91.ntmps:=dn (c91E n) [] 0 (sb (acM [] [] Tryz.f91) 0) false ⟨[(6,.p 1 0),(7,.p 2 0),(11,.ws 3),(48,.rs 1 4 0 .q none),(49,.i .i64),(50,.i .i64)],[(1,.ints .u8 3),(2,.ints .u8 3),(3,.rows [.s]),(4,.rows [.s])],5,0,0,0⟩ [] [⟨.exit 0,⟨[(11,.ws 3)],[(3,.rows [.s])],5,0,0,0⟩⟩] (aJ n) n
def c91 (n:Nat):PF Tryz.prog 91 q66 (.tp q21):=aK Tryz.func91 Tryz.call91 (c91E n) [Tu n] [] [] (bR n)
def c90 (n:Nat):FF Tryz.prog 90 q78 q52 1 1 [⟨.tp q21,[],[],false⟩]:=funC Tryz.func90 Tryz.call90 [(c91 n).e] [] [] [] [0] (gJ n)
def c160 (n:Nat):PF Tryz.prog 160 [.ag q48] (.tp q21):=aK Tryz.func160 Tryz.call160 [(c200 n).e,(c91 n).e] [] [] [] (gV n)
def c92 (n:Nat):FF Tryz.prog 92 q78 q52 1 1 [⟨.tp q21,[],[],false⟩]:=funC Tryz.func92 Tryz.call92 [(c160 n).e] [] [] [] [0] (fJ n)
def c161 (n:Nat):PF Tryz.prog 161 [.ag q20] (.tp q21):=aK Tryz.func161 Tryz.call161 [(c202 n).e,(c91 n).e] [] [] [] (fe n)
def c93E (n:Nat):List (FE Tryz.prog):=[(c43 n).e,(c161 n).e,(c162 n).e,(c159 n)]
def Tt (n:Nat):LP Tryz.prog Tryz.f93.ntmps:=dn (c93E n) [] 0 (sb (acM [] [] Tryz.f93) 0) true ⟨[(1,.p 1 0),(5,.ws 2),(28,.ws 0),(29,.i .i64),(30,.i .i64)],q81,3,1,1,1⟩ [] [⟨.exit 0,⟨[(1,.p 1 0),(5,.ws 2)],q81,3,1,1,1⟩⟩] (bJ n) n
def c93 (n:Nat):FF Tryz.prog 93 q78 q52 1 1 [⟨.tp q21,[],[],false⟩]:=funC Tryz.func93 Tryz.call93 (c93E n) [Tt n] [] [] [0] (jR n)
def c12 (n:Nat):FF Tryz.prog 12 q78 q52 1 1 [⟨.tp q21,[],[],false⟩]:=funC Tryz.func12 Tryz.call12 [(c43 n).e,(c44 n).e,(c90 n).e,(c92 n).e,(c93 n).e] [] [] [] [0] (bN n)
def OG (n:Nat):FF Tryz.prog 43 q77 q52 1 1 [⟨.i .i64,[],[],false⟩]:=funC Tryz.func43 Tryz.call43 [(c89 n).e] [] [] [] [0] (gi n)
def SH (n:Nat):FF Tryz.prog 90 q77 q52 1 1 [⟨.tp q21,[],[],false⟩]:=funC Tryz.func90 Tryz.call90 [(c91 n).e] [] [] [] [0] (il n)
def TB (n:Nat):FF Tryz.prog 92 q77 q52 1 1 [⟨.tp q21,[],[],false⟩]:=funC Tryz.func92 Tryz.call92 [(c160 n).e] [] [] [] [0] (iN n)
def M9 (n:Nat):List (FE Tryz.prog):=[(OG n).e,(c161 n).e,(c162 n).e,(c159 n)]
def PG (n:Nat):LP Tryz.prog Tryz.f93.ntmps:=dn (M9 n) [] 0 (sb (acM [] [] Tryz.f93) 0) true ⟨[(1,.p 1 0),(5,.ws 2),(28,.rs 21 0 0 .q (some .q)),(29,.i .i64),(30,.i .i64)],q82,3,1,1,1⟩ [] [⟨.exit 0,⟨[(1,.p 1 0),(5,.ws 2)],q82,3,1,1,1⟩⟩] (eo n) n
def SI (n:Nat):FF Tryz.prog 93 q77 q52 1 1 [⟨.tp q21,[],[],false⟩]:=funC Tryz.func93 Tryz.call93 (M9 n) [PG n] [] [] [0] (ks n)
def P5 (n:Nat):FF Tryz.prog 12 q77 q52 1 1 [⟨.tp q21,[],[],false⟩]:=funC Tryz.func12 Tryz.call12 [(OG n).e,(c44 n).e,(SH n).e,(TB n).e,(SI n).e] [] [] [] [0] (ek n)
def c11 (n:Nat):PF Tryz.prog 11 [.s] (.tp [.s,.i .i64,.i .i64]):=aK Tryz.func11 Tryz.call11 [(c42 n).e,altF (c12 n).e ((P5 n).e) (Eq.trans (b:=12) rfl rfl)] [] [] [] (aX n)
def c13 (n:Nat):PF Tryz.prog 13 [.s,.s] (.b):=aK Tryz.func13 Tryz.call13 [(c11 n).e] [] [] [] (ir n)
def SL (n:Nat):LP Tryz.prog Tryz.f94.ntmps:=dn [] [] 0 (sb (acM [] [] Tryz.f94) 0) true ⟨[(1,.p 1 0),(5,.ws 0),(6,.i .i64),(7,.i .i64)],[(0,.rows [.i .i64,.bo]),(1,.cells [.i .i64])],2,2,1,2⟩ [] [⟨.exit 0,⟨[],q73,2,2,1,2⟩⟩] (kR n) n
def c94 (n:Nat):FF Tryz.prog 94 [.ws 0,.p 1 0] [.rows [.i .i64,.bo],.cells [.i .i64]] 1 2 [⟨.tp [],q73,[],false⟩]:=funC Tryz.func94 Tryz.call94 [] [SL n] [] [] [0,1] (av n)
def c96 (n:Nat):FF Tryz.prog 96 [.ws 0] [.rows q22] 1 1 [⟨.rs 10 0 0 .q (some .q),[],[],false⟩]:=funC Tryz.func96 Tryz.call96 [] [] [] [] [0] (am n)
def c46E (n:Nat):List (FE Tryz.prog):=[(c96 n).e]
def SR (n:Nat):LP Tryz.prog Tryz.f46.ntmps:=dn (c46E n) [] 1 (sb (acM [0] [] Tryz.f46) 1) true ⟨[(3,.ws 1),(40,.ws 0),(41,.i .i64),(42,.i .i64)],[(0,.rows q11),(1,.rows q22)],2,1,1,1⟩ [] q79 (md n) n
def c46 (n:Nat):FF Tryz.prog 46 q78 q52 1 1 [⟨.rs 10 1 0 .q (some .q),[(1,.rows q22)],[1],false⟩]:=funC Tryz.func46 Tryz.call46 (c46E n) [SR n] [0] [] [0] (f8 n)
def c45E (n:Nat):List (FE Tryz.prog):=[(c43 n).e,(c94 n).e,(c46 n).e,(c64 n).e,(c6 n).e,(c95 n).e]
def SS (n:Nat):LP Tryz.prog Tryz.f45.ntmps:=dn (c45E n) [] 1 (sb (sb (acM [] [] Tryz.f45) 0).body 1) true q38 [] q43 (lU n) n
def SG (n:Nat):LP Tryz.prog Tryz.f45.ntmps:=dn (c45E n) [SS n] 0 (sb (acM [] [] Tryz.f45) 0) true q53 [] [⟨.exit 0,⟨[(5,.p 1 0)],q73,2,1,1,1⟩⟩] (cR n) n
def c45 (n:Nat):FF Tryz.prog 45 q78 q52 1 1 [⟨.tp [.i .i64,.i .i64],[],[],false⟩]:=funC Tryz.func45 Tryz.call45 (c45E n) [SG n] [] [] [0] (lI n)
def c97 (n:Nat):PF Tryz.prog 97 q66 (.i .i64):=aK Tryz.func97 Tryz.call97 [(c50 n).e] [] [] [] (pF n)
def c213 (_n:Nat):FE Tryz.prog:=libF (HD Tryz.func213 (by kernel_rfl) (by kernel_rfl) (by kernel_rfl) (by kernel_rfl))
def c166 (n:Nat):PF Tryz.prog 166 [.s,.sk [88]] (.i .i64):=aK Tryz.func166 Tryz.call166 [(c213 n)] [noL 0 (sb (acM [] [] Tryz.f166) 0)] [] [] (qS n)
def c99 (n:Nat):PF Tryz.prog 99 [.s] (.tp [.i .i64,.i .i64]):=aK Tryz.func99 Tryz.call99 [(c164 n).e,(c166 n).e,(c165 n).e] [] [] [] (tW n)
def c47E (n:Nat):List (FE Tryz.prog):=[(c97 n).e,(c98 n).e,(c48 n).e,(c99 n).e,(c100 n).e,(c101 n).e]
def Ti (n:Nat):LP Tryz.prog Tryz.f47.ntmps:=dn (c47E n) [] 2 (sb (sb (sb (acM [] [] Tryz.f47) 0).body 1).body 2) false ⟨[(5,.p 3 0),(8,.i .i64),(9,.i .i64),(13,.i .i64),(63,.ws 1),(64,.i .i64),(65,.i .i64),(74,.ws 2),(75,.i .i64),(76,.i .i64)],q28,4,0,0,0⟩ [] [⟨.exit 4,q61⟩] (mS n) n
def SE (n:Nat):LP Tryz.prog Tryz.f47.ntmps:=dn (c47E n) [Ti n] 1 (sb (sb (acM [] [] Tryz.f47) 0).body 1) false q61 [] [⟨.exit 2,⟨[(5,.p 3 0),(8,.i .i64),(9,.i .i64)],q28,4,0,0,0⟩⟩] (mD n) n
def Tn (n:Nat):LP Tryz.prog Tryz.f47.ntmps:=dn (c47E n) [SE n] 0 (sb (acM [] [] Tryz.f47) 0) false ⟨[(5,.p 3 0),(8,.i .i64),(9,.i .i64),(10,.b)],q28,4,0,0,0⟩ [] [⟨.exit 0,⟨[(8,.i .i64)],[],4,0,0,0⟩⟩] (ia n) n
def c47 (n:Nat):PF Tryz.prog 47 q66 (.tp [.i .i64,.i .i64]):=aK Tryz.func47 Tryz.call47 (c47E n) [Tn n] [] [] (iw n)
def Nw (n:Nat):List (FE Tryz.prog):=[(c96 n).e]
def Pn (n:Nat):LP Tryz.prog Tryz.f46.ntmps:=dn (Nw n) [] 1 (sb (acM [0] [] Tryz.f46) 1) true ⟨[(3,.ws 1),(40,.rs 21 0 0 .q (some .q)),(41,.i .i64),(42,.i .i64)],[(0,.rows q11),(1,.rows q22)],2,1,1,1⟩ [] q79 (kJ n) n
def Qg (n:Nat):FF Tryz.prog 46 q77 q52 1 1 [⟨.rs 10 1 0 .q (some .q),[(1,.rows q22)],[1],false⟩]:=funC Tryz.func46 Tryz.call46 (Nw n) [Pn n] [0] [] [0] (dU n)
def HC (n:Nat):List (FE Tryz.prog):=[(OG n).e,(c94 n).e,(Qg n).e,(c64 n).e,(c6 n).e,(c95 n).e]
def Oq (n:Nat):LP Tryz.prog Tryz.f45.ntmps:=dn (HC n) [] 1 (sb (sb (acM [] [] Tryz.f45) 0).body 1) true q38 [] q43 (kT n) n
def Pq (n:Nat):LP Tryz.prog Tryz.f45.ntmps:=dn (HC n) [Oq n] 0 (sb (acM [] [] Tryz.f45) 0) true q53 [] [⟨.exit 0,⟨[(5,.p 1 0)],q73,2,1,1,1⟩⟩] (cg n) n
def S0 (n:Nat):FF Tryz.prog 45 q77 q52 1 1 [⟨.tp [.i .i64,.i .i64],[],[],false⟩]:=funC Tryz.func45 Tryz.call45 (HC n) [Pq n] [] [] [0] (jW n)
def c14 (n:Nat):PF Tryz.prog 14 [] (.b):=aK Tryz.func14 Tryz.call14 [(c42 n).e,altF (c12 n).e ((P5 n).e) (Eq.trans (b:=12) rfl rfl),altF (c45 n).e ((S0 n).e) (Eq.trans (b:=45) rfl rfl),altF (c46 n).e ((Qg n).e) (Eq.trans (b:=46) rfl rfl),(c47 n).e,(c17 n).e] [] [] [] (jo n)
def c3E (n:Nat):List (FE Tryz.prog):=[(c5 n).e,(c6 n).e,(c7 n),(c8 n).e,(c9 n).e,(c10 n).e,(c11 n).e,(c12 n).e,(c13 n).e,(c14 n).e]
def c3l0 (n:Nat):LP Tryz.prog Tryz.f3.ntmps:=dn (c3E n) [] 0 (sb (acM [] [] Tryz.f3) 0) true ⟨[(4,.p 0 0),(5,.p 1 0),(7,.p 2 0),(8,.i .i64),(10,.i .i64),(11,.ws 3),(12,.s),(13,.p 4 0),(14,.p 5 0),(15,.i .i64)],[(0,.ints .u8 3),(1,.ints .u8 3),(2,.cells q23),(3,.rows [.s]),(4,.ints .u8 3),(5,.ints .u8 3)],6,0,0,0⟩ [] [⟨.ret,⟨[(6,.b)],[],0,0,0,0⟩⟩,⟨.exit 0,⟨[(7,.p 0 0),(8,.i .i64),(10,.i .i64),(12,.s),(13,.p 1 0),(14,.p 2 0)],[(0,.cells q23),(1,.ints .u8 3),(2,.ints .u8 3)],3,0,0,0⟩⟩] (bH n) n
def c3 (n:Nat):PF Tryz.prog 3 [.ag q34,.ai .u8 3,.ai .u8 3] (.b):=aK Tryz.func3 Tryz.call3 (c3E n) [c3l0 n] [] [] (fO n)
theorem pure_circatop_TopMarks (n:Nat):∀a r,fO n a.1 a.2.1 a.2.2.1 a.2.2.2.1 a.2.2.2.2.1 a.2.2.2.2.2.1 a.2.2.2.2.2.2.1 a.2.2.2.2.2.2.2.1 a.2.2.2.2.2.2.2.2.1 a.2.2.2.2.2.2.2.2.2.1 a.2.2.2.2.2.2.2.2.2.2.1 a.2.2.2.2.2.2.2.2.2.2.2=some r->jh Tryz.prog 3 (argP [.ag q34,.ai .u8 3,.ai .u8 3] a) (encP (.b) r):=λa r h=>(c3 n).ok a r h
end
end Go.Sh
