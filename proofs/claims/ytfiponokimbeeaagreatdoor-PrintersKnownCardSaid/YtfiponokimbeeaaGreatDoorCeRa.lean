/- Each function of the program computes its plain function: the certificates.
   Conditions: none. Printed by the bench tool gen.py. -/
import Derived.Test.YtfiponokimbeeaaGreatDoorCeR
import Derived.Test.YtfiponokimbeeaaGreatDoorPShape
set_option linter.unusedVariables false
set_option linter.unusedSimpArgs false
set_option maxRecDepth 100000
set_option maxHeartbeats 4000000
namespace Go.Sh
open Go.Abs Go.Proofs
noncomputable section
abbrev q25:List PV:=[.p 2 0,.i .u8,.bd,.b,.s,.i .i64,.i .i64,.s,.s,.i .u8,.i .u8,.i .u8,.i .u8,.bd,.b,.s,.i .i64,.i .i64,.s,.s,.i .u8,.i .u8,.i .u8,.i .u8,.bd,.b,.s,.i .i64,.i .i64,.s,.s,.i .u8,.i .u8,.i .u8,.ws 0,.b,.b,.i .i64]
abbrev q66:List (Nat×PB):=[(1,.cells q25),(2,.cells q30)]
abbrev q59:List PV:=[.pn,.i .u8,.bd,.b,.s,.i .i64,.i .i64,.s,.s,.i .u8,.i .u8,.i .u8,.i .u8,.bd,.b,.s,.i .i64,.i .i64,.s,.s,.i .u8,.i .u8,.i .u8,.i .u8,.bd,.b,.s,.i .i64,.i .i64,.s,.s,.i .u8,.i .u8,.i .u8,.ws 0,.b,.b,.i .i64]
abbrev q51:List (Nat×PB):=[(1,.cells [.p 2 0,.i .u8,.bd,.b,.s,.i .i64,.i .i64,.s,.s,.i .u8,.i .u8,.i .u8,.i .u8,.bd,.b,.s,.i .i64,.i .i64,.s,.s,.i .u8,.i .u8,.i .u8,.i .u8,.bd,.b,.s,.i .i64,.i .i64,.s,.s,.i .u8,.i .u8,.i .u8,.rs 21 3 0 .q (some .q),.b,.b,.i .i64]),(2,.cells q30),(3,.rows q11)]
abbrev q52:List (Nat×PB):=[(1,.cells [.p 2 0,.i .u8,.bd,.b,.s,.i .i64,.i .i64,.s,.s,.i .u8,.i .u8,.i .u8,.i .u8,.bd,.b,.s,.i .i64,.i .i64,.s,.s,.i .u8,.i .u8,.i .u8,.i .u8,.bd,.b,.s,.i .i64,.i .i64,.s,.s,.i .u8,.i .u8,.i .u8,.ws 3,.b,.b,.i .i64]),(2,.cells q30),(3,.rows q11)]
abbrev q95:List PV:=[.ag q12,.i .i64,.i .i64,.i .i64]
abbrev q126:List (Nat×PB):=[(0,.rows q11)]
abbrev q44:List PV:=[.i .u8,.bd,.b,.s,.i .i64,.i .i64,.s,.s,.i .u8,.i .u8,.i .u8,.i .u8,.bd,.b,.s,.i .i64,.i .i64,.s,.s,.i .u8,.i .u8,.i .u8,.i .u8,.bd,.b,.s,.i .i64,.i .i64,.s,.s,.i .u8,.i .u8,.i .u8,.ws 2,.b,.b]
abbrev q102:PSt:=⟨[(0,.sl 0 0 .q (some .q)),(3,.i .u8),(4,.i .i64)],[(0,.ints .u8 3)],1,1,1,1⟩
def Lo (_n:Nat):Ent:=Ko 255
theorem IB (n:Nat):fF Tryz.prog (Lo n):=LO Tryz.call255 Pq
def c255 (n:Nat):FE Tryz.prog:=libF (IB n)
def RO (n:Nat):LP Tryz.prog Tryz.f72.ntmps:=cq [] [] 0 (sb (acM [] [] Tryz.f72) 0) false ⟨[(0,.ws 0),(1,.s),(7,.i .i64),(8,.i .i64)],[(0,.rows [.s])],1,1,1,1⟩ [] q123 (bn n) n
def Yd (n:Nat):FF Tryz.prog 72 [.ws 0,.s] [.rows [.s]] 1 1 [⟨.i .i64,[],[],false⟩]:=funC Tryz.func72 Tryz.call72 [] [RO n] [] [] [0] (e7 n)
def c254 (n:Nat):FF Tryz.prog 254 [.ws 0,.s] [.rows [.s]] 1 1 [⟨.b,[],[],false⟩]:=funC Tryz.func254 Tryz.call254 [(Yd n).e] [] [] [] [0] (dj n)
def MH (_n:Nat):Ent:=QK 256
theorem Ir (n:Nat):fF Tryz.prog (MH n):=LN Tryz.call256 λs c w h1 h2 h3 h4=>Tryz.strings_ContainsAny_laid s c w h1 h2 h3 h4
def c256 (n:Nat):FE Tryz.prog:=libF (Ir n)
def WL (n:Nat):PF Tryz.prog 295 [.s,.sk [89]] (.b):=aK Tryz.func295 Tryz.call295 [] [] [] [] (fj n)
def VV (n:Nat):PF Tryz.prog 251 [.s,.sk [89]] (.b):=aK Tryz.func251 Tryz.call251 [(WL n).e] [] [] [] (cO n)
def c198 (n:Nat):PF Tryz.prog 198 [.s,.ag q33] (.i .i64):=aK Tryz.func198 Tryz.call198 [(c51 n).e,(c252 n),(c253 n).e,(c53 n).e,(c255 n),(c254 n).e,(c256 n),(VV n).e] [] [] [] (lD n)
def c134 (n:Nat):FF Tryz.prog 134 [.p 1 0] [.rows q11,.cells q25,.cells q30] 1 3 [⟨.it 197 (.ag [.i .i64,.i .i64]),q66,[],true⟩,⟨.tp [.ag q33,.i .i64],q66,[],false⟩]:=funC Tryz.func134 Tryz.call134 [(c190 n).e,(c195 n).e,(c198 n).e,(Qw n).e] [] [] [] [1,2,0] (dn n)
def c135 (n:Nat):FF Tryz.prog 135 [.p 0 0,.ag q33,.i .i64] [.cells [.p 1 0,.i .u8,.bd,.b,.s,.i .i64,.i .i64,.s,.s,.i .u8,.i .u8,.i .u8,.i .u8,.bd,.b,.s,.i .i64,.i .i64,.s,.s,.i .u8,.i .u8,.i .u8,.i .u8,.bd,.b,.s,.i .i64,.i .i64,.s,.s,.i .u8,.i .u8,.i .u8,.ws 2,.b,.b,.i .i64],.cells q30,.rows q11] 3 3 [⟨.it 197 (.ag [.i .i64,.i .i64]),[],[],true⟩,⟨.ag [.i .u8,.bd,.b,.s,.i .i64,.i .i64,.s,.s,.i .u8,.i .u8,.i .u8],[],[],false⟩]:=funC Tryz.func135 Tryz.call135 [(c199 n).e,(c193 n).e] [] [] [] [0,1,2] (cS n)
def c132 (n:Nat):FF Tryz.prog 132 [.p 1 0] [.rows q11,.cells q25,.cells q30] 1 3 [⟨.tp [],q66,[],false⟩,⟨.it 197 (.ag [.i .i64,.i .i64]),q66,[],true⟩]:=funC Tryz.func132 Tryz.call132 [(c128 n).e,(Qw n).e,(c131 n).e,(c134 n).e,(c135 n).e,(c161 n).e,(c193 n).e] [] [] [] [1,2,0] (fG n)
def c67 (n:Nat):FF Tryz.prog 67 [.p 1 0,.p 2 0] [.rows q11,.cells q59,.cells q30] 1 3 [⟨.it 197 (.ag [.i .i64,.i .i64]),q66,[],true⟩,⟨.tp [],q51,[3],false⟩,⟨.tp [],q66,[],false⟩,⟨.tp [],q52,[3],false⟩]:=funC Tryz.func67 Tryz.call67 [(c128 n).e,(c129 n).e,(c130 n).e,(c131 n).e,(c132 n).e,(c133 n).e,(c134 n).e,(c135 n).e] [] [] [] [1,2,0] (il n)
def c66 (n:Nat):FF Tryz.prog 66 [.s,.fn 1000067 [.p 1 0]] [.rows q11,.cells q59] 1 2 [⟨.tp [.i .i64,.i .i64],q66,[2],false⟩,⟨.tp [.i .i64,.i .i64],q51,[2,3],false⟩,⟨.tp [.i .i64,.i .i64],q52,[2,3],false⟩]:=funD ⟨(acM [] [] Tryz.f66),2,3,0,9,127,5⟩ Tryz.func66 Tryz.call66 Tryz.func127 Tryz.call127 [(c67 n).e] [] [] [] [1,0] (ei n) (by kernel_rfl) (by kernel_rfl) (by kernel_rfl) (by kernel_rfl)
def c24 (n:Nat):FF Tryz.prog 24 [.s] [] 0 0 [⟨.tp q95,q126,[0],false⟩,⟨.tp [.ag q19,.i .i64,.i .i64,.i .i64],q126,[0],false⟩]:=funC Tryz.func24 Tryz.call24 [(c66 n).e] [] [] [] [] (na n)
def Uk (n:Nat):FF Tryz.prog 160 q118 q72 1 1 [⟨.b,[],[],false⟩]:=funC Tryz.func160 Tryz.call160 [] [] [] [] [0] (my n)
def Xr (n:Nat):FF Tryz.prog 218 q117 [.cells q20,.cells q44,.rows q11] 3 3 [⟨.b,[],[],false⟩]:=funC Tryz.func218 Tryz.call218 [(c217 n).e] [] [] [] [0,1,2] (pD n)
def Xg (n:Nat):FF Tryz.prog 219 [.p 0 0,.p 1 0,.p 2 0] [.cells [.i .u8,.bd,.b,.s,.i .i64,.i .i64,.s,.s,.i .u8,.i .u8,.i .u8,.i .u8,.bd,.b,.s,.i .i64,.i .i64,.s,.s,.i .u8,.i .u8,.i .u8,.i .u8,.bd,.b,.s,.i .i64,.i .i64,.s,.s,.i .u8,.i .u8,.i .u8,.ws 3,.b,.b],.cells [.i .i64],.cells q20,.rows q11] 4 4 [⟨.b,[],[],false⟩]:=funC Tryz.func219 Tryz.call219 [(c220 n).e] [] [] [] [0,1,2,3] (qa n)
def Vi (n:Nat):FF Tryz.prog 221 [.p 0 0,.p 1 0,.p 2 0,.p 3 0] [.cells q63,.cells [.i .i64],.cells [.i .i64],.cells q20,.rows q11] 5 5 [⟨.b,[],[],false⟩]:=funC Tryz.func221 Tryz.call221 [(c220 n).e] [] [] [] [0,1,2,3,4] (pO n)
def Wt (n:Nat):FF Tryz.prog 222 q117 [.cells q44,.cells [.i .i64],.rows q11] 3 3 [⟨.b,[],[],false⟩]:=funC Tryz.func222 Tryz.call222 [] [] [] [] [0,1,2] (pP n)
def Un (n:Nat):FF Tryz.prog 216 [.sl 0 0 4 (some (.k 4))] [.cells q71,.cells q20,.cells q43,.cells [.i .i64],.cells [.i .i64],.rows q11] 6 6 [⟨.i .i64,[],[],false⟩]:=funC Tryz.func216 Tryz.call216 [(Xr n).e,(Xg n).e,(Vi n).e,(Wt n).e] [] [0] [] [0,1,2,3,4,5] (gD n)
def Nk (n:Nat):List (FE Tryz.prog):=[(c217 n).e,(Un n).e]
def O2 (n:Nat):LP Tryz.prog Tryz.f162.ntmps:=cq (Nk n) [] 0 (sb (acM [] [] Tryz.f162) 0) true ⟨[(1,.p 1 0),(4,.p 2 0),(13,.ws 0),(14,.i .i64),(15,.i .i64)],[(0,.rows q11),(1,.cells q12),(2,.cells [.i .i64])],3,1,1,1⟩ [] q73 (fw n) n
def UY (n:Nat):FF Tryz.prog 162 q118 q72 1 1 [⟨.tp [.i .i64,.i .i64],[],[],false⟩]:=funC Tryz.func162 Tryz.call162 (Nk n) [O2 n] [] [] [0] (lP n)
def XM (n:Nat):FF Tryz.prog 94 q118 q72 1 1 [⟨.tp [.i .i64,.i .i64],[],[],false⟩]:=funC Tryz.func94 Tryz.call94 [(Uk n).e,(c60 n).e,(c161 n).e,(UY n).e] [] [] [] [0] (lE n)
def c48 (n:Nat):FF Tryz.prog 48 q118 q72 1 1 [⟨.i .i64,[],[],false⟩]:=funC Tryz.func48 Tryz.call48 [(XM n).e] [] [] [] [0] (iK n)
def c74 (n:Nat):FF Tryz.prog 74 [] [] 0 0 [⟨.mp 0,[(0,.mp .u8 [(1,142),(2,143),(3,144),(4,144)])],[0],false⟩]:=funC Tryz.func74 Tryz.call74 [] [] [] [] [] (ko n)
def VC (n:Nat):LP Tryz.prog Tryz.f101.ntmps:=cq [] [] 0 (sb (acM [] [] Tryz.f101) 0) false q102 [] [⟨.exit 0,⟨[(3,.i .u8)],[],1,1,1,1⟩⟩] (jU n) n
def c101 (n:Nat):FF Tryz.prog 101 [.sl 0 0 .q (some .q)] [.ints .u8 3] 1 1 [⟨.it 9 (.s),[],[],true⟩,⟨.i .u8,[],[],false⟩]:=funC Tryz.func101 Tryz.call101 [] [VC n] [] [] [0] (lq n)
def Um (n:Nat):LP Tryz.prog Tryz.f102.ntmps:=cq [] [] 0 (sb (acM [] [] Tryz.f102) 0) false q102 [] [⟨.exit 0,⟨[(3,.i .u8)],[],1,1,1,1⟩⟩] (jT n) n
def c102 (n:Nat):FF Tryz.prog 102 [.sl 0 0 .q (some .q)] [.ints .u8 3] 1 1 [⟨.it 9 (.s),[],[],true⟩,⟨.i .u8,[],[],false⟩]:=funC Tryz.func102 Tryz.call102 [] [Um n] [] [] [0] (lA n)
def c56 (n:Nat):PF Tryz.prog 56 q111 (.tp q119):=aK Tryz.func56 Tryz.call56 [(c100 n).e,(c101 n).e,(c102 n).e] [] [] [] (pN n)
end
end Go.Sh
