/- Each function of the program computes its plain function: the certificates.
   Conditions: none. Printed by the bench tool gen.py. -/
import Derived.Test.YtaogbalpingjhaaGreatDoorCeT
import Derived.Test.YtaogbalpingjhaaGreatDoorPShape
set_option linter.unusedVariables false
set_option linter.unusedSimpArgs false
set_option maxRecDepth 100000
set_option maxHeartbeats 4000000
namespace Go.Sh
open Go.Abs Go.Proofs
noncomputable section
abbrev q17:List PV:=[.p 2 0,.i .u8,.bd,.b,.s,.i .i64,.i .i64,.s,.s,.i .u8,.i .u8,.i .u8,.i .u8,.bd,.b,.s,.i .i64,.i .i64,.s,.s,.i .u8,.i .u8,.i .u8,.i .u8,.bd,.b,.s,.i .i64,.i .i64,.s,.s,.i .u8,.i .u8,.i .u8,.ws 0,.b,.b,.i .i64]
abbrev q49:List (Nat×PB):=[(1,.cells q17),(2,.cells q20)]
abbrev q41:List PV:=[.pn,.i .u8,.bd,.b,.s,.i .i64,.i .i64,.s,.s,.i .u8,.i .u8,.i .u8,.i .u8,.bd,.b,.s,.i .i64,.i .i64,.s,.s,.i .u8,.i .u8,.i .u8,.i .u8,.bd,.b,.s,.i .i64,.i .i64,.s,.s,.i .u8,.i .u8,.i .u8,.ws 0,.b,.b,.i .i64]
abbrev q34:List (Nat×PB):=[(1,.cells [.p 2 0,.i .u8,.bd,.b,.s,.i .i64,.i .i64,.s,.s,.i .u8,.i .u8,.i .u8,.i .u8,.bd,.b,.s,.i .i64,.i .i64,.s,.s,.i .u8,.i .u8,.i .u8,.i .u8,.bd,.b,.s,.i .i64,.i .i64,.s,.s,.i .u8,.i .u8,.i .u8,.rs 21 3 0 .q (some .q),.b,.b,.i .i64]),(2,.cells q20),(3,.rows q11)]
abbrev q35:List (Nat×PB):=[(1,.cells [.p 2 0,.i .u8,.bd,.b,.s,.i .i64,.i .i64,.s,.s,.i .u8,.i .u8,.i .u8,.i .u8,.bd,.b,.s,.i .i64,.i .i64,.s,.s,.i .u8,.i .u8,.i .u8,.i .u8,.bd,.b,.s,.i .i64,.i .i64,.s,.s,.i .u8,.i .u8,.i .u8,.ws 3,.b,.b,.i .i64]),(2,.cells q20),(3,.rows q11)]
abbrev q14:List PV:=[.i .u8,.bd,.b,.s,.i .i64,.i .i64,.s,.s,.i .u8,.i .u8,.i .u8,.i .u8,.bd,.b,.s,.i .i64,.i .i64,.s,.s,.i .u8,.i .u8,.i .u8,.i .u8,.bd,.b,.s,.i .i64,.i .i64,.s,.s,.i .u8,.i .u8,.i .u8,.ws 0,.b,.b]
abbrev q79:List PV:=[.ag q14]
abbrev q47:List PV:=[.i .u8,.bd,.b,.s,.i .i64,.i .i64,.s,.s,.i .u8,.i .u8,.i .u8,.i .u8,.bd,.b,.s,.i .i64,.i .i64,.s,.s,.i .u8,.i .u8,.i .u8,.i .u8,.bd,.b,.s,.i .i64,.i .i64,.s,.s,.i .u8,.i .u8,.i .u8,.ws 2,.b,.b]
abbrev q65:PSt:=⟨[(0,.sl 0 0 .q (some .q)),(3,.i .u8),(4,.i .i64)],[(0,.ints .u8 3)],1,1,1,1⟩
def AG (_n:Nat):Ent:=B0 236
theorem zB (n:Nat):cD Tryz.prog (AG n):=CB Tryz.call236 Et
def c236 (n:Nat):FE Tryz.prog:=libF (zB n)
def Fa (n:Nat):LP Tryz.prog Tryz.f144.ntmps:=cb [] [] 0 (sb (acM [] [] Tryz.f144) 0) false ⟨[(0,.ws 0),(1,.s),(7,.i .i64),(8,.i .i64)],[(0,.rows [.s])],1,1,1,1⟩ [] q71 (dr n) n
def JL (n:Nat):FF Tryz.prog 144 [.ws 0,.s] [.rows [.s]] 1 1 [⟨.i .i64,[],[],false⟩]:=funC Tryz.func144 Tryz.call144 [] [Fa n] [] [] [0] (eh n)
def c235 (n:Nat):FF Tryz.prog 235 [.ws 0,.s] [.rows [.s]] 1 1 [⟨.b,[],[],false⟩]:=funC Tryz.func235 Tryz.call235 [(JL n).e] [] [] [] [0] (dY n)
def By (_n:Nat):Ent:=Gz 237
theorem Ad (n:Nat):cD Tryz.prog (By n):=Di Tryz.call237 λs c w h1 h2 h3 h4=>Tryz.strings_ContainsAny_laid s c w h1 h2 h3 h4
def c237 (n:Nat):FE Tryz.prog:=libF (Ad n)
def JE (n:Nat):PF Tryz.prog 232 [.s,.sk [89]] (.b):=aB Tryz.func232 Tryz.call232 [] [] [] [] (eA n)
def IM (n:Nat):PF Tryz.prog 196 [.s,.sk [89]] (.b):=aB Tryz.func196 Tryz.call196 [(JE n).e] [] [] [] (cv n)
def c199 (n:Nat):PF Tryz.prog 199 [.s,.ag q22] (.i .i64):=aB Tryz.func199 Tryz.call199 [(c64 n).e,(c233 n),(c234 n).e,(c95 n).e,(c236 n),(c235 n).e,(c237 n),(IM n).e] [] [] [] (sA n)
def c153 (n:Nat):FF Tryz.prog 153 [.p 1 0] [.rows q11,.cells q17,.cells q20] 1 3 [⟨.it 131 (.ag [.i .i64,.i .i64]),q49,[],true⟩,⟨.tp [.ag q22,.i .i64],q49,[],false⟩]:=funC Tryz.func153 Tryz.call153 [(c143 n).e,(c197 n).e,(c199 n).e,(Gl n).e] [] [] [] [1,2,0] (dV n)
def c154 (n:Nat):FF Tryz.prog 154 [.p 0 0,.ag q22,.i .i64] [.cells [.p 1 0,.i .u8,.bd,.b,.s,.i .i64,.i .i64,.s,.s,.i .u8,.i .u8,.i .u8,.i .u8,.bd,.b,.s,.i .i64,.i .i64,.s,.s,.i .u8,.i .u8,.i .u8,.i .u8,.bd,.b,.s,.i .i64,.i .i64,.s,.s,.i .u8,.i .u8,.i .u8,.ws 2,.b,.b,.i .i64],.cells q20,.rows q11] 3 3 [⟨.it 131 (.ag [.i .i64,.i .i64]),[],[],true⟩,⟨.ag [.i .u8,.bd,.b,.s,.i .i64,.i .i64,.s,.s,.i .u8,.i .u8,.i .u8],[],[],false⟩]:=funC Tryz.func154 Tryz.call154 [(c200 n).e,(c146 n).e] [] [] [] [0,1,2] (du n)
def c151 (n:Nat):FF Tryz.prog 151 [.p 1 0] [.rows q11,.cells q17,.cells q20] 1 3 [⟨.tp [],q49,[],false⟩,⟨.it 131 (.ag [.i .i64,.i .i64]),q49,[],true⟩]:=funC Tryz.func151 Tryz.call151 [(c75 n).e,(Gl n).e,(c84 n).e,(c153 n).e,(c154 n).e,(c156 n).e,(c146 n).e] [] [] [] [1,2,0] (eW n)
def c88 (n:Nat):FF Tryz.prog 88 [.p 1 0,.p 2 0] [.rows q11,.cells q41,.cells q20] 1 3 [⟨.it 131 (.ag [.i .i64,.i .i64]),q49,[],true⟩,⟨.tp [],q34,[3],false⟩,⟨.tp [],q49,[],false⟩,⟨.tp [],q35,[3],false⟩]:=funC Tryz.func88 Tryz.call88 [(c75 n).e,(c149 n).e,(c150 n).e,(c84 n).e,(c151 n).e,(c152 n).e,(c153 n).e,(c154 n).e] [] [] [] [1,2,0] (jm n)
def c38 (n:Nat):FF Tryz.prog 38 [.s,.fn 1000088 [.p 1 0]] [.rows q11,.cells q41] 1 2 [⟨.tp [.i .i64,.i .i64],q49,[2],false⟩,⟨.tp [.i .i64,.i .i64],q34,[2,3],false⟩,⟨.tp [.i .i64,.i .i64],q35,[2,3],false⟩]:=funD ⟨(acM [] [] Tryz.f38),2,3,0,9,73,5⟩ Tryz.func38 Tryz.call38 Tryz.func73 Tryz.call73 [(c88 n).e] [] [] [] [1,0] (dF n) (by kernel_rfl) (by kernel_rfl) (by kernel_rfl) (by kernel_rfl)
def c42 (n:Nat):FF Tryz.prog 42 [.s] [] 0 0 [⟨.tp [.ag q14,.i .i64,.i .i64,.i .i64],[(0,.rows q11)],[0],false⟩,⟨.tp [.ag q13,.i .i64,.i .i64,.i .i64],[(0,.rows q11)],[0],false⟩]:=funC Tryz.func42 Tryz.call42 [(c38 n).e] [] [] [] [] (jb n)
def I5 (n:Nat):FF Tryz.prog 155 q79 q51 1 1 [⟨.b,[],[],false⟩]:=funC Tryz.func155 Tryz.call155 [] [] [] [] [0] (pA n)
def IC (n:Nat):FF Tryz.prog 203 q73 [.cells q18,.cells q47,.rows q11] 3 3 [⟨.b,[],[],false⟩]:=funC Tryz.func203 Tryz.call203 [(c202 n).e] [] [] [] [0,1,2] (nJ n)
def JD (n:Nat):FF Tryz.prog 204 [.p 0 0,.p 1 0,.p 2 0] [.cells [.i .u8,.bd,.b,.s,.i .i64,.i .i64,.s,.s,.i .u8,.i .u8,.i .u8,.i .u8,.bd,.b,.s,.i .i64,.i .i64,.s,.s,.i .u8,.i .u8,.i .u8,.i .u8,.bd,.b,.s,.i .i64,.i .i64,.s,.s,.i .u8,.i .u8,.i .u8,.ws 3,.b,.b],.cells [.i .i64],.cells q18,.rows q11] 4 4 [⟨.b,[],[],false⟩]:=funC Tryz.func204 Tryz.call204 [(c205 n).e] [] [] [] [0,1,2,3] (nH n)
def JJ (n:Nat):FF Tryz.prog 206 [.p 0 0,.p 1 0,.p 2 0,.p 3 0] [.cells q45,.cells [.i .i64],.cells [.i .i64],.cells q18,.rows q11] 5 5 [⟨.b,[],[],false⟩]:=funC Tryz.func206 Tryz.call206 [(c205 n).e] [] [] [] [0,1,2,3,4] (nI n)
def IF (n:Nat):FF Tryz.prog 207 q73 [.cells q47,.cells [.i .i64],.rows q11] 3 3 [⟨.b,[],[],false⟩]:=funC Tryz.func207 Tryz.call207 [] [] [] [] [0,1,2] (n9 n)
def Jl (n:Nat):FF Tryz.prog 201 [.sl 0 0 4 (some (.k 4))] [.cells q50,.cells q18,.cells q46,.cells [.i .i64],.cells [.i .i64],.rows q11] 6 6 [⟨.i .i64,[],[],false⟩]:=funC Tryz.func201 Tryz.call201 [(IC n).e,(JD n).e,(JJ n).e,(IF n).e] [] [0] [] [0,1,2,3,4,5] (mL n)
def B1 (n:Nat):List (FE Tryz.prog):=[(c202 n).e,(Jl n).e]
def Eo (n:Nat):LP Tryz.prog Tryz.f157.ntmps:=cb (B1 n) [] 0 (sb (acM [] [] Tryz.f157) 0) true ⟨[(1,.p 1 0),(4,.p 2 0),(13,.ws 0),(14,.i .i64),(15,.i .i64)],[(0,.rows q11),(1,.cells q14),(2,.cells [.i .i64])],3,1,1,1⟩ [] q68 (mJ n) n
def JC (n:Nat):FF Tryz.prog 157 q79 q51 1 1 [⟨.tp [.i .i64,.i .i64],[],[],false⟩]:=funC Tryz.func157 Tryz.call157 (B1 n) [Eo n] [] [] [0] (rj n)
def J4 (n:Nat):FF Tryz.prog 89 q79 q51 1 1 [⟨.tp [.i .i64,.i .i64],[],[],false⟩]:=funC Tryz.func89 Tryz.call89 [(I5 n).e,(c50 n).e,(c156 n).e,(JC n).e] [] [] [] [0] (qP n)
def c43 (n:Nat):FF Tryz.prog 43 q79 q51 1 1 [⟨.i .i64,[],[],false⟩]:=funC Tryz.func43 Tryz.call43 [(J4 n).e] [] [] [] [0] (jE n)
def c44 (n:Nat):FF Tryz.prog 44 [] [] 0 0 [⟨.mp 0,[(0,.mp .u8 [(1,90),(2,92),(3,93),(4,93)])],[0],false⟩]:=funC Tryz.func44 Tryz.call44 [] [] [] [] [] (iy n)
def IP (n:Nat):LP Tryz.prog Tryz.f208.ntmps:=cb [] [] 0 (sb (acM [] [] Tryz.f208) 0) false q65 [] [⟨.exit 0,⟨[(3,.i .u8)],[],1,1,1,1⟩⟩] (fp n) n
def c208 (n:Nat):FF Tryz.prog 208 [.sl 0 0 .q (some .q)] [.ints .u8 3] 1 1 [⟨.it 9 (.s),[],[],true⟩,⟨.i .u8,[],[],false⟩]:=funC Tryz.func208 Tryz.call208 [] [IP n] [] [] [0] (gG n)
def Je (n:Nat):LP Tryz.prog Tryz.f209.ntmps:=cb [] [] 0 (sb (acM [] [] Tryz.f209) 0) false q65 [] [⟨.exit 0,⟨[(3,.i .u8)],[],1,1,1,1⟩⟩] (fE n) n
def c209 (n:Nat):FF Tryz.prog 209 [.sl 0 0 .q (some .q)] [.ints .u8 3] 1 1 [⟨.it 9 (.s),[],[],true⟩,⟨.i .u8,[],[],false⟩]:=funC Tryz.func209 Tryz.call209 [] [Je n] [] [] [0] (gH n)
def c158 (n:Nat):PF Tryz.prog 158 [.ai .u8 3,.i .i64] (.tp [.ai .u8 3,.ai .u8 3,.i .i64]):=aB Tryz.func158 Tryz.call158 [(c36 n).e,(c208 n).e,(c209 n).e] [] [] [] (rN n)
end
end Go.Sh
