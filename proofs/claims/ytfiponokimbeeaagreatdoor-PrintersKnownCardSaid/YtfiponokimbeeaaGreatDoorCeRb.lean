/- Each function of the program computes its plain function: the certificates.
   Conditions: none. Printed by the bench tool gen.py. -/
import Derived.Test.YtfiponokimbeeaaGreatDoorCeRa
import Derived.Test.YtfiponokimbeeaaGreatDoorYText
set_option linter.unusedVariables false
set_option linter.unusedSimpArgs false
set_option maxRecDepth 100000
set_option maxHeartbeats 4000000
namespace Go.Sh
open Go.Abs Go.Proofs
noncomputable section
abbrev q131:List (Nat×PB):=[(0,.rows q11),(1,.cells q12),(2,.rows [.s])]
abbrev q132:List (Nat×PB):=[(0,.rows q11),(1,.cells q19),(2,.rows [.s])]
abbrev q41:List PV:=[.s,.i .i64,.i .i64]
abbrev q133:List PX:=[⟨.ret,⟨[(0,.b)],[],0,0,0,0⟩⟩,⟨.exit 0,q107⟩]
abbrev q53:List (Nat×PB):=[(0,.ints .u8 3),(1,.ints .u8 3),(2,.ints .u8 3),(3,.ints .u8 3)]
abbrev q99:PSt:=⟨[(2,.i .i64),(3,.p 0 0),(4,.p 1 0),(6,.p 2 0),(7,.p 3 0),(8,.i .u8)],q53,4,0,0,0⟩
abbrev q94:List PV:=[.bk false,.bk false,.sk [],.ik .i64 0,.ik .i64 0,.sk [],.sk [],.ik .u8 0,.ik .u8 0,.ik .u8 0]
abbrev q67:List PV:=[.sk [],.ik .i64 0,.ik .i64 0]
abbrev q16:List (Nat×PB):=[(0,.cells q94),(1,.ints .i64 3),(2,.cells q67),(3,.cells [.b,.b,.s,.i .i64,.i .i64,.s,.s,.ik .u8 0,.ik .u8 0,.ik .u8 0]),(4,.ints .i64 3),(5,.ints .u8 3),(6,.ints .u8 3),(7,.cells q41)]
abbrev q34:PSt:=⟨[(0,.s),(4,.p 0 0),(5,.p 1 0),(6,.p 2 0),(7,.p 3 0),(8,.p 4 0),(9,.p 5 0),(10,.p 6 0),(11,.p 7 0),(12,.i .i64),(13,.i .i64)],q16,8,0,0,0⟩
abbrev q89:List (Nat×PV):=[(4,.p 0 0),(5,.p 1 0),(6,.p 2 0),(7,.p 3 0),(8,.p 4 0),(9,.p 5 0),(10,.p 6 0),(11,.p 7 0),(12,.i .i64)]
abbrev q29:List (Nat×PB):=[(0,.rows q11),(1,.cells q12),(2,.cells q94),(3,.cells [.ik .u8 0,.bk false,.bk false,.sk [],.ik .i64 0,.ik .i64 0,.sk [],.sk [],.ik .u8 0,.ik .u8 0,.ik .u8 0])]
abbrev q87:PSt:=⟨[(1,.p 1 0),(4,.p 2 0),(5,.p 3 0),(6,.b)],q29,4,1,1,1⟩
abbrev q134:List (Nat×PB):=[(0,.rows q11),(1,.cells q12),(2,.cells q20)]
abbrev q86:PSt:=⟨[(1,.p 1 0),(7,.i .i64),(8,.p 2 0),(10,.b),(11,.b)],q134,3,1,1,1⟩
abbrev q136:List PV:=[.s,.i .i64,.ik .i64 0]
abbrev q114:List (Nat×PV):=[(0,.s),(4,.p 0 0),(5,.p 1 0),(6,.p 2 0),(7,.p 3 0),(8,.i .u8)]
abbrev q40:List (Nat×PB):=[(0,.cells q23),(1,.cells q67),(2,.cells q136),(3,.cells [.i .u8,.bk false,.bk false,.sk [],.ik .i64 0,.ik .i64 0,.sk [],.sk [],.ik .u8 0,.ik .u8 0,.ik .u8 0,.ik .u8 0,.bk false,.bk false,.sk [],.ik .i64 0,.ik .i64 0,.sk [],.sk [],.ik .u8 0,.ik .u8 0,.ik .u8 0,.ik .u8 0,.bk false,.bk false,.sk [],.ik .i64 0,.ik .i64 0,.sk [],.sk [],.ik .u8 0,.ik .u8 0,.ik .u8 0,.ws 5,.bk false,.bk false]),(4,.rows q11),(5,.rows q11)]
abbrev q13:List PV:=[.ik .u8 0,.bk false,.bk false,.sk [],.ik .i64 0,.ik .i64 0,.sk [],.sk [],.ik .u8 0,.ik .u8 0,.ik .u8 0,.ik .u8 0,.bk false,.bk false,.sk [],.ik .i64 0,.ik .i64 0,.sk [],.sk [],.ik .u8 0,.ik .u8 0,.ik .u8 0,.ik .u8 0,.bk false,.bk false,.sk [],.ik .i64 0,.ik .i64 0,.sk [],.sk [],.ik .u8 0,.ik .u8 0,.ik .u8 0,.ws 2,.bk false,.bk false]
abbrev q101:PSt:=⟨[(4,.p 0 0),(5,.p 1 0)],[(0,.cells q13),(1,.cells q41),(2,.rows q11)],3,0,0,0⟩
abbrev q91:List (Nat×PV):=[(0,.s),(4,.p 0 0),(5,.p 1 0),(6,.p 2 0),(7,.p 3 0),(8,.i .u8),(9,.ws 4),(10,.p 5 0),(11,.i .i64)]
abbrev q46:List PV:=[.ik .u8 0,.bk false,.bk false,.sk [],.ik .i64 0,.ik .i64 0,.sk [],.sk [],.ik .u8 0,.ik .u8 0,.ik .u8 0,.ik .u8 0,.bk false,.bk false,.sk [],.ik .i64 0,.ik .i64 0,.sk [],.sk [],.ik .u8 0,.ik .u8 0,.ik .u8 0,.ik .u8 0,.bk false,.bk false,.sk [],.ik .i64 0,.ik .i64 0,.sk [],.sk [],.ik .u8 0,.ik .u8 0,.ik .u8 0,.ws 6,.bk false,.bk false]
abbrev q48:List PV:=[.i .u8,.bk false,.bk false,.sk [],.ik .i64 0,.ik .i64 0,.sk [],.sk [],.ik .u8 0,.ik .u8 0,.ik .u8 0,.ik .u8 0,.bk false,.bk false,.sk [],.ik .i64 0,.ik .i64 0,.sk [],.sk [],.ik .u8 0,.ik .u8 0,.ik .u8 0,.ik .u8 0,.bk false,.bk false,.sk [],.ik .i64 0,.ik .i64 0,.sk [],.sk [],.ik .u8 0,.ik .u8 0,.ik .u8 0,.ws 7,.b,.bk false]
abbrev q24:List (Nat×PB):=[(0,.cells q46),(1,.cells q67),(2,.cells q41),(3,.cells q48),(4,.rows [.i .i64]),(5,.cells q69),(6,.rows q11),(7,.rows q11)]
abbrev q83:PSt:=⟨[(0,.s),(4,.p 0 0),(5,.p 1 0),(6,.p 2 0),(7,.p 3 0),(8,.i .u8),(9,.ws 4),(10,.p 5 0),(11,.i .i64),(77,.b)],q24,8,0,0,0⟩
abbrev q74:List (Nat×PV):=[(0,.s),(4,.p 0 0),(5,.p 1 0),(6,.p 2 0),(7,.p 3 0),(8,.i .u8),(9,.ws 4)]
abbrev q28:List (Nat×PB):=[(0,.cells q43),(1,.cells q41),(2,.cells q41),(3,.cells [.i .u8,.bd,.b,.s,.i .i64,.i .i64,.s,.s,.i .u8,.i .u8,.i .u8,.i .u8,.bd,.b,.s,.i .i64,.i .i64,.s,.s,.i .u8,.i .u8,.i .u8,.i .u8,.bd,.b,.s,.i .i64,.i .i64,.s,.s,.i .u8,.i .u8,.i .u8,.ws 6,.b,.b]),(4,.rows [.i .i64]),(5,.rows q11),(6,.rows q11)]
abbrev q31:List (Nat×PB):=[(0,.rows q11),(1,.cells [.ik .u8 2,.bd,.b,.s,.i .i64,.i .i64,.s,.s,.i .u8,.i .u8,.i .u8,.i .u8,.bd,.b,.s,.i .i64,.i .i64,.s,.s,.i .u8,.i .u8,.i .u8,.i .u8,.bd,.b,.s,.i .i64,.i .i64,.s,.s,.i .u8,.i .u8,.i .u8,.ws 0,.b,.b]),(2,.cells q14),(3,.rows q11)]
abbrev q103:PSt:=⟨[(0,.s),(1,.i .i64),(3,.i .i64),(6,.p 1 0),(8,.p 2 0),(12,.b)],q31,4,1,1,1⟩
abbrev q32:List PV:=[.i .u8,.bd,.b,.s,.i .i64,.i .i64,.s,.s,.i .u8,.i .u8,.i .u8,.i .u8,.bd,.b,.s,.i .i64,.i .i64,.s,.s,.i .u8,.i .u8,.i .u8,.i .u8,.bd,.b,.s,.i .i64,.i .i64,.s,.s,.i .u8,.i .u8,.i .u8,.ws 1,.b,.b]
abbrev q45:List (Nat×PB):=[(0,.cells [.ik .u8 0,.bk false,.bk false,.sk [],.ik .i64 0,.ik .i64 0,.sk [],.sk [],.ik .u8 0,.ik .u8 0,.ik .u8 0,.ik .u8 0,.bk false,.bk false,.sk [],.ik .i64 0,.ik .i64 0,.sk [],.sk [],.ik .u8 0,.ik .u8 0,.ik .u8 0,.ik .u8 0,.bk false,.bk false,.sk [],.ik .i64 0,.ik .i64 0,.sk [],.sk [],.ik .u8 0,.ik .u8 0,.ik .u8 0,.ws 1,.bk false,.bk false]),(1,.rows q11)]
abbrev q50:List (Nat×PB):=[(0,.cells q13),(1,.cells q14),(2,.rows q11),(3,.rows q11)]
abbrev q116:PSt:=⟨[(0,.s),(2,.p 0 0),(8,.p 1 0),(10,.ik .i64 0)],q50,4,0,0,0⟩
abbrev q109:PSt:=⟨[(0,.s),(2,.p 0 0),(8,.p 1 0),(10,.ik .i64 0),(116,.b)],q50,4,0,0,0⟩
abbrev q110:PSt:=⟨[(0,.s),(2,.p 0 0),(8,.p 1 0),(10,.ik .i64 0),(127,.b)],q50,4,0,0,0⟩
abbrev q96:List (Nat×PB):=[(0,.cells q23),(1,.cells q22),(2,.cells q33),(3,.cells q41),(4,.rows q11),(5,.rows q11)]
abbrev q26:List (Nat×PB):=[(0,.cells q13),(1,.cells [.ik .u8 0,.bk false,.bk false,.sk [],.ik .i64 0,.ik .i64 0,.sk [],.sk [],.ik .u8 0,.ik .u8 0,.ik .u8 0,.i .u8,.bd,.b,.s,.i .i64,.i .i64,.s,.s,.i .u8,.i .u8,.i .u8,.ik .u8 0,.bk false,.bk false,.sk [],.ik .i64 0,.ik .i64 0,.sk [],.sk [],.ik .u8 0,.ik .u8 0,.ik .u8 0,.ws 3,.bk false,.bk false]),(2,.rows q11),(3,.rows q11)]
abbrev q62:PSt:=⟨[(0,.s),(2,.p 0 0),(8,.p 1 0),(9,.i .i64),(10,.i .i64)],q26,4,0,0,0⟩
abbrev q64:PSt:=⟨[(2,.p 0 0),(3,.i .i64),(4,.i .i64),(5,.i .i64)],[(0,.cells q32),(1,.rows q11)],2,0,0,0⟩
noncomputable def OT (n:Nat):Ent:=Lx 57 (cG n)
theorem MN (n:Nat):fF Tryz.prog (OT n):=Lr Tryz.call57 (JM n) (PZ n)
def c57 (n:Nat):FE Tryz.prog:=libF (MN n)
def c58 (n:Nat):PF Tryz.prog 58 [.i .u8] (.tp q30):=aK Tryz.func58 Tryz.call58 [(c108 n).e,(c71 n).e] [] [] [] (rE n)
noncomputable def O7 (_n:Nat):Ent:=SV 59
theorem KZ (n:Nat):fF Tryz.prog (O7 n):=Ov Tryz.call59 Tryz.strings_Join_none Tryz.strings_Join
def c59 (n:Nat):FE Tryz.prog:=libF (KZ n)
def c22E (n:Nat):List (FE Tryz.prog):=[(c55 n).e,(c52 n).e,(c56 n).e,(c57 n),(c58 n).e,(c59 n)]
def XX (n:Nat):LP Tryz.prog Tryz.f22.ntmps:=cq (c22E n) [] 0 (sb (acM [] [] Tryz.f22) 0) false ⟨[(6,.p 1 0),(7,.p 2 0),(11,.ws 3),(48,.rs 1 4 0 .q none),(49,.i .i64),(50,.i .i64)],[(1,.ints .u8 3),(2,.ints .u8 3),(3,.rows [.s]),(4,.rows [.s])],5,0,0,0⟩ [] [⟨.exit 0,⟨[(11,.ws 3)],[(3,.rows [.s])],5,0,0,0⟩⟩] (aS n) n
def c22 (n:Nat):PF Tryz.prog 22 q88 (.tp q30):=aK Tryz.func22 Tryz.call22 (c22E n) [XX n] [] [] (cK n)
def c142 (n:Nat):FF Tryz.prog 142 q118 q72 1 1 [⟨.tp q30,[],[],false⟩]:=funC Tryz.func142 Tryz.call142 [(c22 n).e] [] [] [] [0] (jf n)
def c205 (n:Nat):PF Tryz.prog 205 [.ag q42] (.tp q30):=aK Tryz.func205 Tryz.call205 [(c199 n).e,(c22 n).e] [] [] [] (jk n)
def c143 (n:Nat):FF Tryz.prog 143 q118 q72 1 1 [⟨.tp q30,[],[],false⟩]:=funC Tryz.func143 Tryz.call143 [(c205 n).e] [] [] [] [0] (gZ n)
def c206 (n:Nat):PF Tryz.prog 206 [.ag q20] (.tp q30):=aK Tryz.func206 Tryz.call206 [(c217 n).e,(c22 n).e] [] [] [] (gC n)
def Uy (n:Nat):List (FE Tryz.prog):=[(c48 n).e,(c206 n).e,(c192 n).e,(c59 n)]
def Vg (n:Nat):LP Tryz.prog Tryz.f144.ntmps:=cq (Uy n) [] 0 (sb (acM [] [] Tryz.f144) 0) true ⟨[(1,.p 1 0),(5,.ws 2),(28,.ws 0),(29,.i .i64),(30,.i .i64)],q131,3,1,1,1⟩ [] [⟨.exit 0,⟨[(1,.p 1 0),(5,.ws 2)],q131,3,1,1,1⟩⟩] (cn n) n
def c144 (n:Nat):FF Tryz.prog 144 q118 q72 1 1 [⟨.tp q30,[],[],false⟩]:=funC Tryz.func144 Tryz.call144 (Uy n) [Vg n] [] [] [0] (lJ n)
def c28 (n:Nat):FF Tryz.prog 28 q118 q72 1 1 [⟨.tp q30,[],[],false⟩]:=funC Tryz.func28 Tryz.call28 [(c48 n).e,(c74 n).e,(c142 n).e,(c143 n).e,(c144 n).e] [] [] [] [0] (fK n)
def Vx (n:Nat):FF Tryz.prog 48 [.ag q19] q72 1 1 [⟨.i .i64,[],[],false⟩]:=funC Tryz.func48 Tryz.call48 [(c94 n).e] [] [] [] [0] (jx n)
def WT (n:Nat):FF Tryz.prog 142 [.ag q19] q72 1 1 [⟨.tp q30,[],[],false⟩]:=funC Tryz.func142 Tryz.call142 [(c22 n).e] [] [] [] [0] (jL n)
def Vo (n:Nat):FF Tryz.prog 143 [.ag q19] q72 1 1 [⟨.tp q30,[],[],false⟩]:=funC Tryz.func143 Tryz.call143 [(c205 n).e] [] [] [] [0] (ky n)
def KB (n:Nat):List (FE Tryz.prog):=[(Vx n).e,(c206 n).e,(c192 n).e,(c59 n)]
def O1 (n:Nat):LP Tryz.prog Tryz.f144.ntmps:=cq (KB n) [] 0 (sb (acM [] [] Tryz.f144) 0) true ⟨[(1,.p 1 0),(5,.ws 2),(28,.rs 21 0 0 .q (some .q)),(29,.i .i64),(30,.i .i64)],q132,3,1,1,1⟩ [] [⟨.exit 0,⟨[(1,.p 1 0),(5,.ws 2)],q132,3,1,1,1⟩⟩] (fR n) n
def VM (n:Nat):FF Tryz.prog 144 [.ag q19] q72 1 1 [⟨.tp q30,[],[],false⟩]:=funC Tryz.func144 Tryz.call144 (KB n) [O1 n] [] [] [0] (mc n)
def X2 (n:Nat):FF Tryz.prog 28 [.ag q19] q72 1 1 [⟨.tp q30,[],[],false⟩]:=funC Tryz.func28 Tryz.call28 [(Vx n).e,(c74 n).e,(WT n).e,(Vo n).e,(VM n).e] [] [] [] [0] (jD n)
def c14 (n:Nat):PF Tryz.prog 14 [.s] (.tp q41):=aK Tryz.func14 Tryz.call14 [(c24 n).e,altF (c28 n).e ((X2 n).e) (Eq.trans (b:=28) rfl rfl)] [] [] [] (bH n)
def c9 (n:Nat):PF Tryz.prog 9 [.s,.s] (.b):=aK Tryz.func9 Tryz.call9 [(c14 n).e] [] [] [] (lT n)
def c12E (n:Nat):List (FE Tryz.prog):=[(c14 n).e,(c9 n).e]
def XD (n:Nat):LP Tryz.prog Tryz.f12.ntmps:=cq (c12E n) [] 0 (sb (acM [] [] Tryz.f12) 0) true ⟨[(1,.ws 0),(2,.ws 1),(3,.i .i64)],[(0,.rows [.s]),(1,.rows [.s])],2,0,0,0⟩ [] q133 (nM n) n
def c12 (n:Nat):PF Tryz.prog 12 [] (.b):=aK Tryz.func12 Tryz.call12 (c12E n) [XD n] [] [] (mJ n)
def c85 (n:Nat):PF Tryz.prog 85 [.i .u8,.i .u8] (.i .i64):=aK Tryz.func85 Tryz.call85 [] [] [] [] (iU n)
def c40E (n:Nat):List (FE Tryz.prog):=[(c85 n).e]
def Yj (n:Nat):LP Tryz.prog Tryz.f40.ntmps:=cq (c40E n) [] 2 (sb (sb (sb (acM [] [] Tryz.f40) 0).body 1).body 2) false ⟨[(2,.i .i64),(3,.p 0 0),(4,.p 1 0),(6,.p 2 0),(7,.p 3 0),(8,.i .u8),(9,.i .i64),(10,.i .i64),(11,.i .i64)],q53,4,0,0,0⟩ [] [⟨.exit 4,⟨[(2,.i .i64),(3,.p 0 0),(4,.p 1 0),(6,.p 2 0),(7,.p 3 0),(8,.i .u8),(9,.i .i64),(10,.i .i64)],q53,4,0,0,0⟩⟩] (ci n) n
def Ya (n:Nat):LP Tryz.prog Tryz.f40.ntmps:=cq (c40E n) [Yj n] 1 (sb (sb (acM [] [] Tryz.f40) 0).body 1) false ⟨[(2,.i .i64),(3,.p 0 0),(4,.p 1 0),(6,.p 2 0),(7,.p 3 0),(8,.i .u8),(9,.i .i64)],q53,4,0,0,0⟩ [] [⟨.exit 2,q99⟩] (bB n) n
def Yi (n:Nat):LP Tryz.prog Tryz.f40.ntmps:=cq (c40E n) [Ya n] 0 (sb (acM [] [] Tryz.f40) 0) false q99 [] [⟨.exit 0,⟨[(6,.p 2 0),(7,.p 3 0)],[(2,.ints .u8 3),(3,.ints .u8 3)],4,0,0,0⟩⟩] (cR n) n
def c40 (n:Nat):PF Tryz.prog 40 q119 (.ai .u8 3):=aK Tryz.func40 Tryz.call40 (c40E n) [Yi n] [] [] (eu n)
def c42 (n:Nat):FF Tryz.prog 42 [.i .i64,.i .i64] [] 0 0 [⟨.tp q95,q126,[0],false⟩]:=funC Tryz.func42 Tryz.call42 [] [] [] [] [] (bm n)
def c86 (n:Nat):PF Tryz.prog 86 q30 (.i .u8):=aK Tryz.func86 Tryz.call86 [] [] [] [] (di n)
def c88 (n:Nat):PF Tryz.prog 88 q30 (.i .i64):=aK Tryz.func88 Tryz.call88 [(c86 n).e] [] [] [] (eM n)
def c87 (n:Nat):PF Tryz.prog 87 [.ag q41,.i .i64,.i .i64] (.ag q41):=aK Tryz.func87 Tryz.call87 [] [] [] [] (dP n)
def c92E (n:Nat):List (FE Tryz.prog):=[(c41 n).e]
def Xx (n:Nat):LP Tryz.prog Tryz.f92.ntmps:=cq (c92E n) [] 0 (sb (acM [] [] Tryz.f92) 0) false ⟨[(0,.i .u8),(3,.i .u8)],[],0,0,0,0⟩ [] [⟨.ret,⟨[(2,.i .u8)],[],0,0,0,0⟩⟩,⟨.exit 0,q107⟩] (qg n) n
def c92 (n:Nat):PF Tryz.prog 92 [.i .u8] (.i .u8):=aK Tryz.func92 Tryz.call92 (c92E n) [Xx n] [] [] (dO n)
def c155 (n:Nat):PF Tryz.prog 155 [.ag q41] (.tp [.i .u8,.ag q41]):=aK Tryz.func155 Tryz.call155 [(c92 n).e] [] [] [] (eO n)
def c209 (n:Nat):PF Tryz.prog 209 [.s,.i .i64,.i .u8] (.tp [.i .i64,.i .i64]):=aK Tryz.func209 Tryz.call209 [] [] [] [] (aj n)
def Vs (n:Nat):List (FE Tryz.prog):=[(c209 n).e]
def V4 (n:Nat):LP Tryz.prog Tryz.f156.ntmps:=cq (Vs n) [] 0 (sb (acM [] [] Tryz.f156) 0) false ⟨[(0,.s),(4,.p 0 0),(7,.p 1 0),(8,.i .i64),(9,.i .i64),(10,.i .i64)],[(0,.cells q38),(1,.cells q38)],2,0,0,0⟩ [] [⟨.ret,⟨[(4,.p 0 0),(5,.i .i64),(6,.i .i64)],q112,2,0,0,0⟩⟩,⟨.exit 0,⟨[(0,.s),(4,.p 0 0),(7,.p 1 0),(8,.i .i64),(9,.i .i64)],[(0,.cells q38),(1,.cells q38)],2,0,0,0⟩⟩] (ax n) n
def c156 (n:Nat):PF Tryz.prog 156 q30 (.tp [.ag q38,.i .i64,.i .i64]):=aK Tryz.func156 Tryz.call156 (Vs n) [V4 n] [] [] (lc n)
def UL (n:Nat):LP Tryz.prog Tryz.f157.ntmps:=cq [] [] 0 (sb (acM [] [] Tryz.f157) 0) false ⟨[(1,.p 0 0),(3,.p 1 0),(4,.i .i64),(5,.i .i64)],[(0,.cells q41),(1,.cells q41)],2,0,0,0⟩ [] [⟨.ret,⟨[(2,.s),(3,.p 1 0)],[(1,.cells q41)],2,0,0,0⟩⟩,⟨.exit 0,⟨[(1,.p 0 0),(3,.p 1 0),(4,.i .i64)],[(0,.cells q41),(1,.cells q41)],2,0,0,0⟩⟩] (gX n) n
def c157 (n:Nat):PF Tryz.prog 157 [.ag q41] (.tp [.s,.ag q41]):=aK Tryz.func157 Tryz.call157 [] [UL n] [] [] (jV n)
def c90E (n:Nat):List (FE Tryz.prog):=[(c155 n).e,(c156 n).e,(c157 n).e,(c40 n).e]
def Xc (n:Nat):LP Tryz.prog Tryz.f90.ntmps:=fp (c90E n) [] 1013 (sb (sb (sb (acM [] [12,13,21,24] Tryz.f90) 0).body 1012) 1013) false q34 [⟨.nrm,⟨[(0,.s),(4,.p 0 0),(5,.p 1 0),(6,.p 2 0),(7,.p 3 0),(8,.p 4 0),(9,.p 5 0),(10,.p 6 0),(11,.p 7 0),(12,.i .i64),(13,.i .i64),(40,.b)],q16,8,0,0,0⟩⟩] (iH n)
def Wn (n:Nat):LP Tryz.prog Tryz.f90.ntmps:=fp (c90E n) [Xc n] 1012 (sb (sb (acM [] [12,13,21,24] Tryz.f90) 0).body 1012) false ⟨[(0,.s),(4,.p 0 0),(5,.p 1 0),(6,.p 2 0),(7,.p 3 0),(8,.p 4 0),(9,.p 5 0),(10,.p 6 0),(11,.p 7 0),(12,.i .i64),(13,.i .i64),(22,.b)],q16,8,0,0,0⟩ [⟨.exit 0,⟨q89,q16,8,0,0,0⟩⟩,⟨.nrm,q34⟩] (fQ n)
def Ws (n:Nat):LP Tryz.prog Tryz.f90.ntmps:=fp (c90E n) [] 1024 (sb (sb (sb (acM [] [12,13,21,24] Tryz.f90) 0).body 1021) 1024) false ⟨[(0,.s),(4,.p 0 0),(5,.p 1 0),(6,.p 2 0),(7,.p 3 0),(8,.p 4 0),(9,.p 5 0),(10,.p 6 0),(11,.p 7 0),(12,.i .i64),(13,.i .i64),(76,.b)],q16,8,0,0,0⟩ [⟨.nrm,q34⟩] (iI n)
def UJ (n:Nat):LP Tryz.prog Tryz.f90.ntmps:=fp (c90E n) [Ws n] 1021 (sb (sb (acM [] [12,13,21,24] Tryz.f90) 0).body 1021) false ⟨[(0,.s),(4,.p 0 0),(5,.p 1 0),(6,.p 2 0),(7,.p 3 0),(8,.p 4 0),(9,.p 5 0),(10,.p 6 0),(11,.p 7 0),(12,.i .i64),(13,.i .i64),(56,.i .i64),(63,.b)],q16,8,0,0,0⟩ [⟨.nrm,q34⟩] (fL n)
def XC (n:Nat):LP Tryz.prog Tryz.f90.ntmps:=cq (c90E n) [Wn n,UJ n] 0 (sb (acM [] [12,13,21,24] Tryz.f90) 0) false q34 [] [⟨.exit 0,⟨q89,[(0,.cells q21),(1,.ints .i64 3),(2,.cells q41),(3,.cells q21),(4,.ints .i64 3),(5,.ints .u8 3),(6,.ints .u8 3),(7,.cells q41)],8,0,0,0⟩⟩,⟨.ret,⟨[(4,.p 0 0),(5,.p 1 0),(6,.p 2 0)],[(0,.cells q21),(1,.ints .i64 3),(2,.cells q41)],8,0,0,0⟩⟩] (bf n) n
def c90 (n:Nat):PF Tryz.prog 90 q30 (.tp [.ag q21,.ai .i64 3,.ag q41]):=aK Tryz.func90 Tryz.call90 (c90E n) [XC n] [] [12,13,21,24] (jp n)
def c44 (n:Nat):PF Tryz.prog 44 q30 (.tp [.ag q21,.i .i64,.ag q41]):=aK Tryz.func44 Tryz.call44 [(c90 n).e,(c91 n).e] [] [] [] (eQ n)
def c154 (n:Nat):PF Tryz.prog 154 [.ag q33] (.i .i64):=aK Tryz.func154 Tryz.call154 [(c91 n).e,(c46 n).e,(c77 n).e] [] [] [] (bg n)
def c153 (n:Nat):PF Tryz.prog 153 [.ag q20,.b] (.i .i64):=aK Tryz.func153 Tryz.call153 [(c91 n).e,(c154 n).e,(c38 n).e,(c80 n).e,(c46 n).e] [] [] [] (jq n)
def c89E (n:Nat):List (FE Tryz.prog):=[(c91 n).e,(c32 n).e,(c153 n).e,(c154 n).e]
def Xt (n:Nat):LP Tryz.prog Tryz.f89.ntmps:=fp (c89E n) [] 1003 (sb (acM [] [3,4,7,32,33] Tryz.f89) 1003) true ⟨[(1,.p 1 0),(4,.p 2 0),(5,.p 3 0)],q29,4,1,1,1⟩ [⟨.nrm,q87⟩] (iu n)
def X7 (n:Nat):LP Tryz.prog Tryz.f89.ntmps:=fp (c89E n) [] 1004 (sb (acM [] [3,4,7,32,33] Tryz.f89) 1004) true q87 [⟨.nrm,⟨[(1,.p 1 0),(4,.p 2 0),(5,.p 3 0),(6,.b),(31,.b)],q29,4,1,1,1⟩⟩] (iC n)
def XY (n:Nat):LP Tryz.prog Tryz.f89.ntmps:=fp (c89E n) [] 1007 (sb (acM [] [3,4,7,32,33] Tryz.f89) 1007) true q87 [⟨.nrm,⟨[(1,.p 1 0),(75,.b)],q85,2,1,1,1⟩⟩] (iw n)
def VP (n:Nat):LP Tryz.prog Tryz.f89.ntmps:=fp (c89E n) [] 1032 (sb (sb (acM [] [3,4,7,32,33] Tryz.f89) 0).body 1032) true ⟨[(1,.p 1 0),(7,.i .i64),(8,.p 2 0)],q134,3,1,1,1⟩ [⟨.nrm,q86⟩] (gR n)
def Wi (n:Nat):LP Tryz.prog Tryz.f89.ntmps:=fp (c89E n) [] 1033 (sb (sb (acM [] [3,4,7,32,33] Tryz.f89) 0).body 1033) true q86 [⟨.nrm,⟨[(1,.p 1 0),(7,.i .i64),(154,.b)],q85,2,1,1,1⟩⟩] (gP n)
def XP (n:Nat):LP Tryz.prog Tryz.f89.ntmps:=cq (c89E n) [VP n,Wi n] 0 (sb (acM [] [3,4,7,32,33] Tryz.f89) 0) true ⟨[(1,.p 1 0),(7,.i .i64)],q85,2,1,1,1⟩ [] q73 (ep n) n
def c89 (n:Nat):FF Tryz.prog 89 q118 q72 1 1 [⟨.tp [.i .i64,.i .i64],[],[],false⟩]:=funC Tryz.func89 Tryz.call89 (c89E n) [Xt n,X7 n,XY n,XP n] [] [3,4,7,32,33] [0] (ga n)
def c43E (n:Nat):List (FE Tryz.prog):=[(c86 n).e,(c87 n).e,(c88 n).e,(c44 n).e,(c89 n).e]
def Xu (n:Nat):LP Tryz.prog Tryz.f43.ntmps:=fp (c43E n) [] 1007 (sb (acM [] [7,14,29,30,42] Tryz.f43) 1007) true ⟨[(0,.s),(1,.i .i64),(4,.p 0 0),(5,.p 1 0),(6,.p 2 0),(7,.p 3 0),(8,.ik .u8 93),(21,.i .u8),(26,.b)],[(0,.cells q23),(1,.cells q67),(2,.cells q136),(3,.cells [.ik .u8 3,.bk false,.bk false,.sk [],.ik .i64 0,.ik .i64 0,.sk [],.sk [],.ik .u8 0,.ik .u8 0,.ik .u8 0,.ik .u8 0,.bk false,.bk false,.sk [],.ik .i64 0,.ik .i64 0,.sk [],.sk [],.ik .u8 0,.ik .u8 0,.ik .u8 0,.ik .u8 0,.bk false,.bk false,.sk [],.ik .i64 0,.ik .i64 0,.sk [],.sk [],.ik .u8 0,.ik .u8 0,.ik .u8 0,.ws 5,.bk false,.bk false]),(4,.rows q11),(5,.rows q11)],6,0,0,0⟩ [⟨.nrm,⟨q114,q40,6,0,0,0⟩⟩,⟨.ret,q101⟩] (kV n)
def WP (n:Nat):LP Tryz.prog Tryz.f43.ntmps:=fp (c43E n) [] 1014 (sb (acM [] [7,14,29,30,42] Tryz.f43) 1014) true ⟨[(0,.s),(4,.p 0 0),(5,.p 1 0),(6,.p 2 0),(7,.p 3 0),(8,.i .u8),(35,.b)],q40,6,0,0,0⟩ [⟨.nrm,⟨q114,[(0,.cells q23),(1,.cells q67),(2,.cells q136),(3,.cells q47),(4,.rows q11),(5,.rows q11)],6,0,0,0⟩⟩] (fM n)
def Vw (n:Nat):LP Tryz.prog Tryz.f43.ntmps:=fp (c43E n) [] 1029 (sb (sb (acM [] [7,14,29,30,42] Tryz.f43) 0).body 1029) true ⟨q91,q24,8,0,0,0⟩ [⟨.nrm,q83⟩] (fO n)
def UW (n:Nat):LP Tryz.prog Tryz.f43.ntmps:=fp (c43E n) [] 1030 (sb (sb (acM [] [7,14,29,30,42] Tryz.f43) 0).body 1030) true q83 [⟨.ret,q101⟩,⟨.nrm,⟨q91,[(0,.cells q46),(1,.cells q67),(2,.cells q41),(3,.cells q48),(4,.rows [.i .i64]),(5,.cells q20),(6,.rows q11),(7,.rows q11)],8,0,0,0⟩⟩] (iL n)
def X6 (n:Nat):LP Tryz.prog Tryz.f43.ntmps:=cq (c43E n) [Vw n,UW n] 0 (sb (acM [] [7,14,29,30,42] Tryz.f43) 0) true ⟨q74,[(0,.cells q22),(1,.cells q67),(2,.cells q41),(3,.cells q27),(4,.rows [.i .i64]),(5,.rows q11),(6,.rows q11)],7,0,0,0⟩ [.nilT 9 1000 [.i .i64]] [⟨.ret,⟨[(4,.p 0 0),(5,.p 1 0)],[(0,.cells q44),(1,.cells q41),(2,.rows q11)],3,0,0,0⟩⟩,⟨.exit 1,⟨q74,q28,7,0,0,0⟩⟩] (ct n) n
def Xh (n:Nat):LP Tryz.prog Tryz.f43.ntmps:=fp (c43E n) [] 1042 (sb (acM [] [7,14,29,30,42] Tryz.f43) 1042) true ⟨[(0,.s),(4,.p 0 0),(5,.p 1 0),(6,.p 2 0),(7,.p 3 0),(8,.i .u8),(9,.ws 4),(117,.b)],q28,7,0,0,0⟩ [⟨.nrm,⟨q74,q28,7,0,0,0⟩⟩] (fP n)
def c43 (n:Nat):FF Tryz.prog 43 q30 [] 0 0 [⟨.tp [.ag q12,.ag q41],q126,[0],false⟩]:=funC Tryz.func43 Tryz.call43 (c43E n) [Xu n,WP n,X6 n,Xh n] [] [7,14,29,30,42] [] (kS n)
def XL (n:Nat):LP Tryz.prog Tryz.f93.ntmps:=cq [] [] 0 (sb (acM [] [] Tryz.f93) 0) true ⟨[(0,.s),(1,.s),(5,.i .i64)],[],0,0,0,0⟩ [] [⟨.ret,q120⟩,⟨.exit 0,q107⟩] (dH n) n
def c93 (n:Nat):PF Tryz.prog 93 [.s,.s] (.i .i64):=aK Tryz.func93 Tryz.call93 [] [XL n] [] [] (aT n)
def c45E (n:Nat):List (FE Tryz.prog):=[(c90 n).e,(c92 n).e,(c77 n).e,(c93 n).e]
def Yg (n:Nat):LP Tryz.prog Tryz.f45.ntmps:=cq (c45E n) [] 0 (sb (acM [] [] Tryz.f45) 0) true ⟨[(0,.s),(3,.p 0 0),(6,.i .i64),(7,.i .i64),(8,.i .i64)],[(0,.cells q33)],1,0,0,0⟩ [] [⟨.ret,⟨[(2,.i .i64)],[],0,0,0,0⟩⟩,⟨.exit 0,⟨[(0,.s),(3,.p 0 0),(6,.i .i64),(7,.i .i64)],[(0,.cells q33)],1,0,0,0⟩⟩] (cU n) n
def c45 (n:Nat):PF Tryz.prog 45 [.s] (.i .i64):=aK Tryz.func45 Tryz.call45 (c45E n) [Yg n] [] [] (eJ n)
def c47E (n:Nat):List (FE Tryz.prog):=[(c42 n).e,(c44 n).e,(c46 n).e,(c32 n).e,(c45 n).e]
def XK (n:Nat):LP Tryz.prog Tryz.f47.ntmps:=fp (c47E n) [] 1003 (sb (acM [] [3,7] Tryz.f47) 1003) true q103 [⟨.nrm,⟨[(0,.s),(1,.i .i64),(3,.i .i64),(6,.p 1 0),(8,.p 2 0),(12,.b),(27,.b)],q31,4,1,1,1⟩⟩] (kn n)
def Yf (n:Nat):LP Tryz.prog Tryz.f47.ntmps:=fp (c47E n) [] 1007 (sb (acM [] [3,7] Tryz.f47) 1007) true q103 [⟨.nrm,⟨[(0,.s),(1,.i .i64),(3,.i .i64),(6,.p 1 0),(8,.p 2 0),(48,.b)],q31,4,1,1,1⟩⟩] (kr n)
def c47 (n:Nat):FF Tryz.prog 47 [.s,.i .i64,.ag q12,.i .i64] q72 1 1 [⟨.tp q95,[],[],false⟩,⟨.tp [.ag q32,.i .i64,.i .i64,.i .i64],[(1,.rows q11)],[1],false⟩]:=funC Tryz.func47 Tryz.call47 (c47E n) [XK n,Yf n] [] [3,7] [0] (mV n)
def c15E (n:Nat):List (FE Tryz.prog):=[(c42 n).e,(c43 n).e,(c44 n).e,(c45 n).e,(c46 n).e,(c47 n).e]
def X1 (n:Nat):LP Tryz.prog Tryz.f15.ntmps:=fp (c15E n) [] 1004 (sb (acM [] [4,17,18,22,23,34,39,42] Tryz.f15) 1004) true ⟨[(0,.s),(2,.p 0 0)],q45,2,0,0,0⟩ [⟨.nrm,⟨[(0,.s),(2,.p 0 0),(33,.b)],q45,2,0,0,0⟩⟩] (iD n)
def Uj (n:Nat):LP Tryz.prog Tryz.f15.ntmps:=fp (c15E n) [] 1017 (sb (acM [] [4,17,18,22,23,34,39,42] Tryz.f15) 1017) true q116 [⟨.nrm,q109⟩] (gK n)
def Vr (n:Nat):LP Tryz.prog Tryz.f15.ntmps:=fp (c15E n) [] 1022 (sb (sb (acM [] [4,17,18,22,23,34,39,42] Tryz.f15) 1018) 1022) true q116 [⟨.nrm,q110⟩] (gQ n)
def UR (n:Nat):LP Tryz.prog Tryz.f15.ntmps:=fp (c15E n) [] 1034 (sb (sb (sb (acM [] [4,17,18,22,23,34,39,42] Tryz.f15) 1018) 1023) 1034) true ⟨[(0,.s),(2,.p 0 0),(8,.p 1 0),(9,.i .i64),(11,.p 2 0),(12,.i .i64),(13,.p 3 0)],q96,6,0,0,0⟩ [⟨.nrm,⟨[(0,.s),(2,.p 0 0),(8,.p 1 0),(9,.i .i64),(11,.p 2 0),(12,.i .i64),(13,.p 3 0),(104,.b)],q96,6,0,0,0⟩⟩] (jK n)
def Vz (n:Nat):LP Tryz.prog Tryz.f15.ntmps:=fp (c15E n) [UR n] 1023 (sb (sb (acM [] [4,17,18,22,23,34,39,42] Tryz.f15) 1018) 1023) true q110 [⟨.nrm,q62⟩,⟨.ret,q64⟩] (jH n)
def UN (n:Nat):LP Tryz.prog Tryz.f15.ntmps:=fp (c15E n) [Vr n,Vz n] 1018 (sb (acM [] [4,17,18,22,23,34,39,42] Tryz.f15) 1018) true q109 [⟨.nrm,q62⟩,⟨.ret,q64⟩] (jJ n)
def V5 (n:Nat):LP Tryz.prog Tryz.f15.ntmps:=fp (c15E n) [] 1039 (sb (acM [] [4,17,18,22,23,34,39,42] Tryz.f15) 1039) true q62 [⟨.nrm,⟨[(0,.s),(2,.p 0 0),(8,.p 1 0),(9,.i .i64),(10,.i .i64),(146,.b)],q26,4,0,0,0⟩⟩] (dV n)
def Us (n:Nat):LP Tryz.prog Tryz.f15.ntmps:=fp (c15E n) [] 1042 (sb (acM [] [4,17,18,22,23,34,39,42] Tryz.f15) 1042) true q62 [⟨.nrm,q64⟩] (gL n)
def c15 (n:Nat):FF Tryz.prog 15 [.s] [] 0 0 [⟨.tp q95,q126,[0],false⟩]:=funC Tryz.func15 Tryz.call15 (c15E n) [X1 n,Uj n,UN n,V5 n,Us n] [] [4,17,18,22,23,34,39,42] [] (kq n)
def c4E (n:Nat):List (FE Tryz.prog):=[(c15 n).e,(c14 n).e,(c8 n).e,(c12 n).e]
def c4l0 (n:Nat):LP Tryz.prog Tryz.f4.ntmps:=cq (c4E n) [] 0 (sb (acM [] [] Tryz.f4) 0) true ⟨[(1,.ws 0),(2,.i .i64)],[(0,.rows [.s])],1,0,0,0⟩ [] q133 (bQ n) n
def c4l1 (n:Nat):LP Tryz.prog Tryz.f4.ntmps:=cq (c4E n) [] 1 (sb (acM [] [] Tryz.f4) 1) true ⟨[(11,.s),(12,.i .i64)],[],0,0,0,0⟩ [] [⟨.exit 2,⟨[(11,.s)],[],0,0,0,0⟩⟩] (dQ n) n
def c4 (n:Nat):PF Tryz.prog 4 [] (.b):=aK Tryz.func4 Tryz.call4 (c4E n) [c4l0 n,c4l1 n] [] [] (dE n)
theorem pure_circalaw21_PrintersKnown (n:Nat):∀a r,dE n=some r->lk Tryz.prog 4 (argP [] a) (encP (.b) r):=λa r h=>(c4 n).ok a r h
end
end Go.Sh
