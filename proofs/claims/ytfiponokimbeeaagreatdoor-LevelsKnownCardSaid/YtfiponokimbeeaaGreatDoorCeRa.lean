/- Each function of the program computes its plain function: the certificates.
   Conditions: none. Printed by the bench tool gen.py. -/
import Derived.Test.YtfiponokimbeeaaGreatDoorCeR
import Derived.Test.YtfiponokimbeeaaGreatDoorPShape
set_option linter.unusedVariables false
set_option linter.unusedSimpArgs false
set_option maxRecDepth 100000
set_option maxHeartbeats 4000000
namespace Go.Sh
open Go.Abs Go.Proofs
noncomputable section
abbrev q24:List PV:=[.p 2 0,.i .u8,.bd,.b,.s,.i .i64,.i .i64,.s,.s,.i .u8,.i .u8,.i .u8,.i .u8,.bd,.b,.s,.i .i64,.i .i64,.s,.s,.i .u8,.i .u8,.i .u8,.i .u8,.bd,.b,.s,.i .i64,.i .i64,.s,.s,.i .u8,.i .u8,.i .u8,.ws 0,.b,.b,.i .i64]
abbrev q67:List (Nat×PB):=[(1,.cells q24),(2,.cells q30)]
abbrev q60:List PV:=[.pn,.i .u8,.bd,.b,.s,.i .i64,.i .i64,.s,.s,.i .u8,.i .u8,.i .u8,.i .u8,.bd,.b,.s,.i .i64,.i .i64,.s,.s,.i .u8,.i .u8,.i .u8,.i .u8,.bd,.b,.s,.i .i64,.i .i64,.s,.s,.i .u8,.i .u8,.i .u8,.ws 0,.b,.b,.i .i64]
abbrev q52:List (Nat×PB):=[(1,.cells [.p 2 0,.i .u8,.bd,.b,.s,.i .i64,.i .i64,.s,.s,.i .u8,.i .u8,.i .u8,.i .u8,.bd,.b,.s,.i .i64,.i .i64,.s,.s,.i .u8,.i .u8,.i .u8,.i .u8,.bd,.b,.s,.i .i64,.i .i64,.s,.s,.i .u8,.i .u8,.i .u8,.rs 21 3 0 .q (some .q),.b,.b,.i .i64]),(2,.cells q30),(3,.rows q11)]
abbrev q53:List (Nat×PB):=[(1,.cells [.p 2 0,.i .u8,.bd,.b,.s,.i .i64,.i .i64,.s,.s,.i .u8,.i .u8,.i .u8,.i .u8,.bd,.b,.s,.i .i64,.i .i64,.s,.s,.i .u8,.i .u8,.i .u8,.i .u8,.bd,.b,.s,.i .i64,.i .i64,.s,.s,.i .u8,.i .u8,.i .u8,.ws 3,.b,.b,.i .i64]),(2,.cells q30),(3,.rows q11)]
abbrev q12:List PV:=[.i .u8,.bd,.b,.s,.i .i64,.i .i64,.s,.s,.i .u8,.i .u8,.i .u8,.i .u8,.bd,.b,.s,.i .i64,.i .i64,.s,.s,.i .u8,.i .u8,.i .u8,.i .u8,.bd,.b,.s,.i .i64,.i .i64,.s,.s,.i .u8,.i .u8,.i .u8,.ws 0,.b,.b]
abbrev q94:List PV:=[.ag q12,.i .i64,.i .i64,.i .i64]
abbrev q116:List (Nat×PB):=[(0,.rows q11)]
abbrev q117:List PV:=[.ag q12]
abbrev q34:List PV:=[.i .u8,.bd,.b,.s,.i .i64,.i .i64,.s,.s,.i .u8,.i .u8,.i .u8,.i .u8,.bd,.b,.s,.i .i64,.i .i64,.s,.s,.i .u8,.i .u8,.i .u8,.i .u8,.bd,.b,.s,.i .i64,.i .i64,.s,.s,.i .u8,.i .u8,.i .u8,.ws 2,.b,.b]
abbrev q101:PSt:=⟨[(0,.sl 0 0 .q (some .q)),(3,.i .u8),(4,.i .i64)],[(0,.ints .u8 3)],1,1,1,1⟩
def Lx (_n:Nat):Ent:=JR 255
theorem HF (n:Nat):fp Tryz.prog (Lx n):=Kw Tryz.call255 LF
def c255 (n:Nat):FE Tryz.prog:=libF (HF n)
def QM (n:Nat):LP Tryz.prog Tryz.f72.ntmps:=bZ [] [] 0 (sb (acM [] [] Tryz.f72) 0) false ⟨[(0,.ws 0),(1,.s),(7,.i .i64),(8,.i .i64)],[(0,.rows [.s])],1,1,1,1⟩ [] q123 (be n) n
def Vk (n:Nat):FF Tryz.prog 72 [.ws 0,.s] [.rows [.s]] 1 1 [⟨.i .i64,[],[],false⟩]:=funC Tryz.func72 Tryz.call72 [] [QM n] [] [] [0] (ef n)
def c254 (n:Nat):FF Tryz.prog 254 [.ws 0,.s] [.rows [.s]] 1 1 [⟨.b,[],[],false⟩]:=funC Tryz.func254 Tryz.call254 [(Vk n).e] [] [] [] [0] (cU n)
def Jt (_n:Nat):Ent:=OC 256
theorem Hg (n:Nat):fp Tryz.prog (Jt n):=I3 Tryz.call256 λs c w h1 h2 h3 h4=>Tryz.strings_ContainsAny_laid s c w h1 h2 h3 h4
def c256 (n:Nat):FE Tryz.prog:=libF (Hg n)
def Re (n:Nat):PF Tryz.prog 295 [.s,.sk [89]] (.b):=aH Tryz.func295 Tryz.call295 [] [] [] [] (eD n)
def UH (n:Nat):PF Tryz.prog 251 [.s,.sk [89]] (.b):=aH Tryz.func251 Tryz.call251 [(Re n).e] [] [] [] (cv n)
def c198 (n:Nat):PF Tryz.prog 198 [.s,.ag q33] (.i .i64):=aH Tryz.func198 Tryz.call198 [(c51 n).e,(c252 n),(c253 n).e,(c53 n).e,(c255 n),(c254 n).e,(c256 n),(UH n).e] [] [] [] (kv n)
def c134 (n:Nat):FF Tryz.prog 134 [.p 1 0] [.rows q11,.cells q24,.cells q30] 1 3 [⟨.it 197 (.ag [.i .i64,.i .i64]),q67,[],true⟩,⟨.tp [.ag q33,.i .i64],q67,[],false⟩]:=funC Tryz.func134 Tryz.call134 [(c190 n).e,(c195 n).e,(c198 n).e,(Oi n).e] [] [] [] [1,2,0] (db n)
def c135 (n:Nat):FF Tryz.prog 135 [.p 0 0,.ag q33,.i .i64] [.cells [.p 1 0,.i .u8,.bd,.b,.s,.i .i64,.i .i64,.s,.s,.i .u8,.i .u8,.i .u8,.i .u8,.bd,.b,.s,.i .i64,.i .i64,.s,.s,.i .u8,.i .u8,.i .u8,.i .u8,.bd,.b,.s,.i .i64,.i .i64,.s,.s,.i .u8,.i .u8,.i .u8,.ws 2,.b,.b,.i .i64],.cells q30,.rows q11] 3 3 [⟨.it 197 (.ag [.i .i64,.i .i64]),[],[],true⟩,⟨.ag [.i .u8,.bd,.b,.s,.i .i64,.i .i64,.s,.s,.i .u8,.i .u8,.i .u8],[],[],false⟩]:=funC Tryz.func135 Tryz.call135 [(c199 n).e,(c193 n).e] [] [] [] [0,1,2] (ct n)
def c132 (n:Nat):FF Tryz.prog 132 [.p 1 0] [.rows q11,.cells q24,.cells q30] 1 3 [⟨.tp [],q67,[],false⟩,⟨.it 197 (.ag [.i .i64,.i .i64]),q67,[],true⟩]:=funC Tryz.func132 Tryz.call132 [(c128 n).e,(Oi n).e,(c131 n).e,(c134 n).e,(c135 n).e,(c161 n).e,(c193 n).e] [] [] [] [1,2,0] (eX n)
def c67 (n:Nat):FF Tryz.prog 67 [.p 1 0,.p 2 0] [.rows q11,.cells q60,.cells q30] 1 3 [⟨.it 197 (.ag [.i .i64,.i .i64]),q67,[],true⟩,⟨.tp [],q52,[3],false⟩,⟨.tp [],q67,[],false⟩,⟨.tp [],q53,[3],false⟩]:=funC Tryz.func67 Tryz.call67 [(c128 n).e,(c129 n).e,(c130 n).e,(c131 n).e,(c132 n).e,(c133 n).e,(c134 n).e,(c135 n).e] [] [] [] [1,2,0] (gu n)
def c66 (n:Nat):FF Tryz.prog 66 [.s,.fn 1000067 [.p 1 0]] [.rows q11,.cells q60] 1 2 [⟨.tp [.i .i64,.i .i64],q67,[2],false⟩,⟨.tp [.i .i64,.i .i64],q52,[2,3],false⟩,⟨.tp [.i .i64,.i .i64],q53,[2,3],false⟩]:=funD ⟨(acM [] [] Tryz.f66),2,3,0,9,127,5⟩ Tryz.func66 Tryz.call66 Tryz.func127 Tryz.call127 [(c67 n).e] [] [] [] [1,0] (dO n) (by kernel_rfl) (by kernel_rfl) (by kernel_rfl) (by kernel_rfl)
def c24 (n:Nat):FF Tryz.prog 24 [.s] [] 0 0 [⟨.tp q94,q116,[0],false⟩,⟨.tp [.ag q29,.i .i64,.i .i64,.i .i64],q116,[0],false⟩]:=funC Tryz.func24 Tryz.call24 [(c66 n).e] [] [] [] [] (mb n)
def Rx (n:Nat):FF Tryz.prog 160 q117 q83 1 1 [⟨.b,[],[],false⟩]:=funC Tryz.func160 Tryz.call160 [] [] [] [] [0] (kW n)
def SX (n:Nat):FF Tryz.prog 218 q115 [.cells q19,.cells q34,.rows q11] 3 3 [⟨.b,[],[],false⟩]:=funC Tryz.func218 Tryz.call218 [(c217 n).e] [] [] [] [0,1,2] (oJ n)
def Uy (n:Nat):FF Tryz.prog 219 [.p 0 0,.p 1 0,.p 2 0] [.cells [.i .u8,.bd,.b,.s,.i .i64,.i .i64,.s,.s,.i .u8,.i .u8,.i .u8,.i .u8,.bd,.b,.s,.i .i64,.i .i64,.s,.s,.i .u8,.i .u8,.i .u8,.i .u8,.bd,.b,.s,.i .i64,.i .i64,.s,.s,.i .u8,.i .u8,.i .u8,.ws 3,.b,.b],.cells [.i .i64],.cells q19,.rows q11] 4 4 [⟨.b,[],[],false⟩]:=funC Tryz.func219 Tryz.call219 [(c220 n).e] [] [] [] [0,1,2,3] (pi n)
def Ri (n:Nat):FF Tryz.prog 221 [.p 0 0,.p 1 0,.p 2 0,.p 3 0] [.cells q64,.cells [.i .i64],.cells [.i .i64],.cells q19,.rows q11] 5 5 [⟨.b,[],[],false⟩]:=funC Tryz.func221 Tryz.call221 [(c220 n).e] [] [] [] [0,1,2,3,4] (o8 n)
def RQ (n:Nat):FF Tryz.prog 222 q115 [.cells q34,.cells [.i .i64],.rows q11] 3 3 [⟨.b,[],[],false⟩]:=funC Tryz.func222 Tryz.call222 [] [] [] [] [0,1,2] (oW n)
def Tm (n:Nat):FF Tryz.prog 216 [.sl 0 0 4 (some (.k 4))] [.cells q71,.cells q19,.cells q43,.cells [.i .i64],.cells [.i .i64],.rows q11] 6 6 [⟨.i .i64,[],[],false⟩]:=funC Tryz.func216 Tryz.call216 [(SX n).e,(Uy n).e,(Ri n).e,(RQ n).e] [] [0] [] [0,1,2,3,4,5] (fJ n)
def Kr (n:Nat):List (FE Tryz.prog):=[(c217 n).e,(Tm n).e]
def NG (n:Nat):LP Tryz.prog Tryz.f162.ntmps:=bZ (Kr n) [] 0 (sb (acM [] [] Tryz.f162) 0) true ⟨[(1,.p 1 0),(4,.p 2 0),(13,.ws 0),(14,.i .i64),(15,.i .i64)],[(0,.rows q11),(1,.cells q12),(2,.cells [.i .i64])],3,1,1,1⟩ [] q72 (eU n) n
def SB (n:Nat):FF Tryz.prog 162 q117 q83 1 1 [⟨.tp [.i .i64,.i .i64],[],[],false⟩]:=funC Tryz.func162 Tryz.call162 (Kr n) [NG n] [] [] [0] (kg n)
def VB (n:Nat):FF Tryz.prog 94 q117 q83 1 1 [⟨.tp [.i .i64,.i .i64],[],[],false⟩]:=funC Tryz.func94 Tryz.call94 [(Rx n).e,(c60 n).e,(c161 n).e,(SB n).e] [] [] [] [0] (kz n)
def c48 (n:Nat):FF Tryz.prog 48 q117 q83 1 1 [⟨.i .i64,[],[],false⟩]:=funC Tryz.func48 Tryz.call48 [(VB n).e] [] [] [] [0] (gv n)
def c74 (n:Nat):FF Tryz.prog 74 [] [] 0 0 [⟨.mp 0,[(0,.mp .u8 [(1,142),(2,143),(3,144),(4,144)])],[0],false⟩]:=funC Tryz.func74 Tryz.call74 [] [] [] [] [] (ln n)
def UI (n:Nat):LP Tryz.prog Tryz.f101.ntmps:=bZ [] [] 0 (sb (acM [] [] Tryz.f101) 0) false q101 [] [⟨.exit 0,⟨[(3,.i .u8)],[],1,1,1,1⟩⟩] (i7 n) n
def c101 (n:Nat):FF Tryz.prog 101 [.sl 0 0 .q (some .q)] [.ints .u8 3] 1 1 [⟨.it 9 (.s),[],[],true⟩,⟨.i .u8,[],[],false⟩]:=funC Tryz.func101 Tryz.call101 [] [UI n] [] [] [0] (jZ n)
def TT (n:Nat):LP Tryz.prog Tryz.f102.ntmps:=bZ [] [] 0 (sb (acM [] [] Tryz.f102) 0) false q101 [] [⟨.exit 0,⟨[(3,.i .u8)],[],1,1,1,1⟩⟩] (iW n) n
def c102 (n:Nat):FF Tryz.prog 102 [.sl 0 0 .q (some .q)] [.ints .u8 3] 1 1 [⟨.it 9 (.s),[],[],true⟩,⟨.i .u8,[],[],false⟩]:=funC Tryz.func102 Tryz.call102 [] [TT n] [] [] [0] (jU n)
def c56 (n:Nat):PF Tryz.prog 56 q126 (.tp q119):=aH Tryz.func56 Tryz.call56 [(c100 n).e,(c101 n).e,(c102 n).e] [] [] [] (pA n)
end
end Go.Sh
