import Derived.Test.YtibehcmomiplnaaGreatDoorCeR
import Derived.Test.YtibehcmomiplnaaGreatDoorPShape
set_option linter.unusedVariables false
set_option linter.unusedSimpArgs false
set_option maxRecDepth 100000
set_option maxHeartbeats 4000000
namespace Go.Sh
open Go.Abs Go.Proofs
noncomputable section
abbrev q25:List PV:=[.p 2 0,.i .u8,.bd,.b,.s,.i .i64,.i .i64,.s,.s,.i .u8,.i .u8,.i .u8,.i .u8,.bd,.b,.s,.i .i64,.i .i64,.s,.s,.i .u8,.i .u8,.i .u8,.i .u8,.bd,.b,.s,.i .i64,.i .i64,.s,.s,.i .u8,.i .u8,.i .u8,.ws 0,.b,.b,.i .i64]
abbrev q64:List (Nat×PB):=[(1,.cells q25),(2,.cells q30)]
abbrev q59:List PV:=[.pn,.i .u8,.bd,.b,.s,.i .i64,.i .i64,.s,.s,.i .u8,.i .u8,.i .u8,.i .u8,.bd,.b,.s,.i .i64,.i .i64,.s,.s,.i .u8,.i .u8,.i .u8,.i .u8,.bd,.b,.s,.i .i64,.i .i64,.s,.s,.i .u8,.i .u8,.i .u8,.ws 0,.b,.b,.i .i64]
abbrev q45:List (Nat×PB):=[(1,.cells [.p 2 0,.i .u8,.bd,.b,.s,.i .i64,.i .i64,.s,.s,.i .u8,.i .u8,.i .u8,.i .u8,.bd,.b,.s,.i .i64,.i .i64,.s,.s,.i .u8,.i .u8,.i .u8,.i .u8,.bd,.b,.s,.i .i64,.i .i64,.s,.s,.i .u8,.i .u8,.i .u8,.rs 21 3 0 .q (some .q),.b,.b,.i .i64]),(2,.cells q30),(3,.rows q11)]
abbrev q47:List (Nat×PB):=[(1,.cells [.p 2 0,.i .u8,.bd,.b,.s,.i .i64,.i .i64,.s,.s,.i .u8,.i .u8,.i .u8,.i .u8,.bd,.b,.s,.i .i64,.i .i64,.s,.s,.i .u8,.i .u8,.i .u8,.i .u8,.bd,.b,.s,.i .i64,.i .i64,.s,.s,.i .u8,.i .u8,.i .u8,.ws 3,.b,.b,.i .i64]),(2,.cells q30),(3,.rows q11)]
abbrev q62:List PV:=[.i .u8,.bd,.b,.s,.i .i64,.i .i64,.s,.s,.i .u8,.i .u8,.i .u8,.i .u8,.bd,.b,.s,.i .i64,.i .i64,.s,.s,.i .u8,.i .u8,.i .u8,.i .u8,.bd,.b,.s,.i .i64,.i .i64,.s,.s,.i .u8,.i .u8,.i .u8,.ws 2,.b,.b]
abbrev q89:PSt:=⟨[(0,.sl 0 0 .q (some .q)),(3,.i .u8),(4,.i .i64)],[(0,.ints .u8 3)],1,1,1,1⟩
def OS(_n:Nat):Ent:=Le 108
theorem JP(n:Nat):fQ Tryz.prog (OS n):=MN Tryz.call108 QU
def c108(n:Nat):FE Tryz.prog:=libF (JP n)
def Qn(n:Nat):LP Tryz.prog Tryz.f161.ntmps:=cE [] [] 0 (sb (acM [] [] Tryz.f161) 0) false ⟨[(0,.ws 0),(1,.s),(7,.i .i64),(8,.i .i64)],[(0,.rows [.s])],1,1,1,1⟩ [] q107 (br n) n
def XW(n:Nat):FF Tryz.prog 161 [.ws 0,.s] [.rows [.s]] 1 1 [⟨.i .i64,[],[],false⟩]:=funC Tryz.func161 Tryz.call161 [] [Qn n] [] [] [0] (fk n)
def c107(n:Nat):FF Tryz.prog 107 [.ws 0,.s] [.rows [.s]] 1 1 [⟨.b,[],[],false⟩]:=funC Tryz.func107 Tryz.call107 [(XW n).e] [] [] [] [0] (dB n)
def OT(_n:Nat):Ent:=S1 109
theorem JV(n:Nat):fQ Tryz.prog (OT n):=M5 Tryz.call109 λs c w h1 h2 h3 h4=>Tryz.strings_ContainsAny_laid s c w h1 h2 h3 h4
def c109(n:Nat):FE Tryz.prog:=libF (JV n)
def VY(n:Nat):PF Tryz.prog 146 [.s,.sk [89]] (.b):=aO Tryz.func146 Tryz.call146 [] [] [] [] (fJ n)
def Xz(n:Nat):PF Tryz.prog 100 [.s,.sk [89]] (.b):=aO Tryz.func100 Tryz.call100 [(VY n).e] [] [] [] (da n)
def c79(n:Nat):PF Tryz.prog 79 [.s,.ag q29] (.i .i64):=aO Tryz.func79 Tryz.call79 [(c103 n).e,(c104 n),(c105 n).e,(c106 n).e,(c108 n),(c107 n).e,(c109 n),(Xz n).e] [] [] [] (me n)
def c59(n:Nat):FF Tryz.prog 59 [.p 1 0] [.rows q11,.cells q25,.cells q30] 1 3 [⟨.it 108 (.ag [.i .i64,.i .i64]),q64,[],true⟩,⟨.tp [.ag q29,.i .i64],q64,[],false⟩]:=funC Tryz.func59 Tryz.call59 [(c70 n).e,(c75 n).e,(c79 n).e,(WH n).e] [] [] [] [1,2,0] (dH n)
def c60(n:Nat):FF Tryz.prog 60 [.p 0 0,.ag q29,.i .i64] [.cells [.p 1 0,.i .u8,.bd,.b,.s,.i .i64,.i .i64,.s,.s,.i .u8,.i .u8,.i .u8,.i .u8,.bd,.b,.s,.i .i64,.i .i64,.s,.s,.i .u8,.i .u8,.i .u8,.i .u8,.bd,.b,.s,.i .i64,.i .i64,.s,.s,.i .u8,.i .u8,.i .u8,.ws 2,.b,.b,.i .i64],.cells q30,.rows q11] 3 3 [⟨.it 108 (.ag [.i .i64,.i .i64]),[],[],true⟩,⟨.ag q28,[],[],false⟩]:=funC Tryz.func60 Tryz.call60 [(c80 n).e,(c73 n).e] [] [] [] [0,1,2] (cZ n)
def c57(n:Nat):FF Tryz.prog 57 [.p 1 0] [.rows q11,.cells q25,.cells q30] 1 3 [⟨.tp [],q64,[],false⟩,⟨.it 108 (.ag [.i .i64,.i .i64]),q64,[],true⟩]:=funC Tryz.func57 Tryz.call57 [(c53 n).e,(WH n).e,(c56 n).e,(c59 n).e,(c60 n).e,(c78 n).e,(c73 n).e] [] [] [] [1,2,0] (fO n)
def c39(n:Nat):FF Tryz.prog 39 [.p 1 0,.p 2 0] [.rows q11,.cells q59,.cells q30] 1 3 [⟨.it 108 (.ag [.i .i64,.i .i64]),q64,[],true⟩,⟨.tp [],q45,[3],false⟩,⟨.tp [],q64,[],false⟩,⟨.tp [],q47,[3],false⟩]:=funC Tryz.func39 Tryz.call39 [(c53 n).e,(c54 n).e,(c55 n).e,(c56 n).e,(c57 n).e,(c58 n).e,(c59 n).e,(c60 n).e] [] [] [] [1,2,0] (iJ n)
def c38(n:Nat):FF Tryz.prog 38 [.s,.fn 1000039 [.p 1 0]] [.rows q11,.cells q59] 1 2 [⟨.tp [.i .i64,.i .i64],q64,[2],false⟩,⟨.tp [.i .i64,.i .i64],q45,[2,3],false⟩,⟨.tp [.i .i64,.i .i64],q47,[2,3],false⟩]:=funD ⟨(acM [] [] Tryz.f38),2,3,0,9,52,5⟩ Tryz.func38 Tryz.call38 Tryz.func52 Tryz.call52 [(c39 n).e] [] [] [] [1,0] (eG n) (by kernel_rfl) (by kernel_rfl) (by kernel_rfl) (by kernel_rfl)
def c25(n:Nat):FF Tryz.prog 25 [.s] [] 0 0 [⟨.tp [.ag q15,.i .i64,.i .i64,.i .i64],[(0,.rows q11)],[0],false⟩,⟨.tp [.ag q20,.i .i64,.i .i64,.i .i64],[(0,.rows q11)],[0],false⟩]:=funC Tryz.func25 Tryz.call25 [(c38 n).e] [] [] [] [] (nQ n)
def Ze(n:Nat):FF Tryz.prog 81 q102 q69 1 1 [⟨.b,[],[],false⟩]:=funC Tryz.func81 Tryz.call81 [] [] [] [] [0] (mM n)
def Xa(n:Nat):FF Tryz.prog 115 q101 [.cells q24,.cells q62,.rows q11] 3 3 [⟨.b,[],[],false⟩]:=funC Tryz.func115 Tryz.call115 [(c114 n).e] [] [] [] [0,1,2] (ql n)
def V4(n:Nat):FF Tryz.prog 116 [.p 0 0,.p 1 0,.p 2 0] [.cells q22,.cells [.i .i64],.cells q24,.rows q11] 4 4 [⟨.b,[],[],false⟩]:=funC Tryz.func116 Tryz.call116 [(c117 n).e] [] [] [] [0,1,2,3] (qk n)
def Xk(n:Nat):FF Tryz.prog 118 [.p 0 0,.p 1 0,.p 2 0,.p 3 0] [.cells q18,.cells [.i .i64],.cells [.i .i64],.cells q24,.rows q11] 5 5 [⟨.b,[],[],false⟩]:=funC Tryz.func118 Tryz.call118 [(c117 n).e] [] [] [] [0,1,2,3,4] (qE n)
def Yg(n:Nat):FF Tryz.prog 119 q101 [.cells q62,.cells [.i .i64],.rows q11] 3 3 [⟨.b,[],[],false⟩]:=funC Tryz.func119 Tryz.call119 [] [] [] [] [0,1,2] (qx n)
def WA(n:Nat):FF Tryz.prog 113 [.sl 0 0 4 (some (.k 4))] [.cells q67,.cells q24,.cells q27,.cells [.i .i64],.cells [.i .i64],.rows q11] 6 6 [⟨.i .i64,[],[],false⟩]:=funC Tryz.func113 Tryz.call113 [(Xa n).e,(V4 n).e,(Xk n).e,(Yg n).e] [] [0] [] [0,1,2,3,4,5] (gK n)
def Tv(n:Nat):List (FE Tryz.prog):=[(c114 n).e,(WA n).e]
def VK(n:Nat):LP Tryz.prog Tryz.f83.ntmps:=cE (Tv n) [] 0 (sb (acM [] [] Tryz.f83) 0) true ⟨[(1,.p 1 0),(4,.p 2 0),(13,.ws 0),(14,.i .i64),(15,.i .i64)],[(0,.rows q11),(1,.cells q15),(2,.cells [.i .i64])],3,1,1,1⟩ [] q93 (fK n) n
def ZF(n:Nat):FF Tryz.prog 83 q102 q69 1 1 [⟨.tp [.i .i64,.i .i64],[],[],false⟩]:=funC Tryz.func83 Tryz.call83 (Tv n) [VK n] [] [] [0] (mc n)
def ZE(n:Nat):FF Tryz.prog 61 q102 q69 1 1 [⟨.tp [.i .i64,.i .i64],[],[],false⟩]:=funC Tryz.func61 Tryz.call61 [(Ze n).e,(c82 n).e,(c78 n).e,(ZF n).e] [] [] [] [0] (mw n)
def c40(n:Nat):FF Tryz.prog 40 q102 q69 1 1 [⟨.i .i64,[],[],false⟩]:=funC Tryz.func40 Tryz.call40 [(ZE n).e] [] [] [] [0] (iY n)
def c41(n:Nat):FF Tryz.prog 41 [] [] 0 0 [⟨.mp 0,[(0,.mp .u8 [(1,62),(2,64),(3,65),(4,65)])],[0],false⟩]:=funC Tryz.func41 Tryz.call41 [] [] [] [] [] (kE n)
def XX(n:Nat):LP Tryz.prog Tryz.f123.ntmps:=cE [] [] 0 (sb (acM [] [] Tryz.f123) 0) false q89 [] [⟨.exit 0,⟨[(3,.i .u8)],[],1,1,1,1⟩⟩] (kl n) n
def c123(n:Nat):FF Tryz.prog 123 [.sl 0 0 .q (some .q)] [.ints .u8 3] 1 1 [⟨.it 9 (.s),[],[],true⟩,⟨.i .u8,[],[],false⟩]:=funC Tryz.func123 Tryz.call123 [] [XX n] [] [] [0] (lV n)
def Xw(n:Nat):LP Tryz.prog Tryz.f124.ntmps:=cE [] [] 0 (sb (acM [] [] Tryz.f124) 0) false q89 [] [⟨.exit 0,⟨[(3,.i .u8)],[],1,1,1,1⟩⟩] (kn n) n
def c124(n:Nat):FF Tryz.prog 124 [.sl 0 0 .q (some .q)] [.ints .u8 3] 1 1 [⟨.it 9 (.s),[],[],true⟩,⟨.i .u8,[],[],false⟩]:=funC Tryz.func124 Tryz.call124 [] [Xw n] [] [] [0] (l7 n)
def c86(n:Nat):PF Tryz.prog 86 q98 (.tp q103):=aO Tryz.func86 Tryz.call86 [(c122 n).e,(c123 n).e,(c124 n).e] [] [] [] (mg n)
end
end Go.Sh
