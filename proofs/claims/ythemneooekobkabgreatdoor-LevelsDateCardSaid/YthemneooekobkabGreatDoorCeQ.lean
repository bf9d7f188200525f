/- Each function of the program computes its plain function: the certificates.
   Conditions: none. Printed by the bench tool gen.py. -/
import Derived.Test.YthemneooekobkabGreatDoorAbsPat
import Derived.Test.YthemneooekobkabGreatDoorHGa
import Derived.Test.YthemneooekobkabGreatDoorHGb
import Derived.Test.YthemneooekobkabGreatDoorHGe
set_option linter.unusedVariables false
set_option linter.unusedSimpArgs false
set_option maxRecDepth 100000
set_option maxHeartbeats 4000000
namespace Go.Sh
open Go.Abs Go.Proofs
noncomputable section
abbrev q30:List PV:=[.s,.i .i64]
abbrev q91:List PB:=[.cells q30]
abbrev q56:List (Nat×PB):=[(0,.cells q30)]
abbrev q94:List (Nat×PV):=[(4,.i .i64)]
abbrev q124:List PX:=[⟨.ret,⟨q94,[],1,1,1,1⟩⟩,⟨.exit 0,⟨[],[],1,1,1,1⟩⟩]
abbrev q111:List (Nat×PB):=[(1,.cells q30)]
abbrev q33:List PV:=[.b,.b,.s,.i .i64,.i .i64]
abbrev q118:List PV:=[.p 0 0,.p 1 0]
abbrev q19:List PV:=[.b,.b,.s,.i .i64,.i .i64,.s,.s,.i .u8,.i .u8,.i .u8]
abbrev q125:List PX:=[⟨.ret,⟨q94,[],1,0,0,0⟩⟩,⟨.exit 0,⟨[],[],1,0,0,0⟩⟩]
abbrev q112:List PV:=[.ai .u8 3,.i .i64]
abbrev q121:List PV:=[.ai .u8 3,.ai .u8 3,.i .i64]
abbrev q101:List PB:=[.cells [.fn 186 [.p 1 0]],.cells [.fn 1000185 [.p 3 0]],.cells q19,.cells q30]
abbrev q98:List (Nat×PB):=[(2,.cells q19),(3,.cells q30)]
abbrev q89:List PV:=[.ag q19]
abbrev q122:List (Nat×PV):=[(0,.s),(7,.s),(8,.i .i64),(9,.i .i64),(12,.i .i64)]
abbrev q123:PSt:=⟨q94,[],0,0,0,0⟩
abbrev q129:PSt:=⟨[],[],0,0,0,0⟩
abbrev q128:List PV:=[.ag q33]
abbrev q67:List PV:=[.i .i8,.i .i64,.i .i8,.i .i64]
abbrev q133:PSt:=⟨[(0,.s),(1,.i .i64),(5,.i .i64)],[],0,0,0,0⟩
abbrev q82:List (Nat×PB):=[(0,.rows [.i .i64])]
abbrev q38:List PV:=[.b,.b,.s,.i .i64,.i .i64,.s,.s,.i .u8,.i .u8,.i .u8,.ws 0,.ws 1]
abbrev q99:List PB:=[.rows [.i .i64]]
abbrev q107:PSt:=⟨[(2,.i .i64)],[],1,0,0,0⟩
abbrev q77:PSt:=⟨[(0,.s),(1,.i .i64),(2,.b),(8,.i .u8),(9,.i .u8),(10,.p 0 0),(11,.p 1 0),(12,.i .i64)],[(0,.ints .u8 18),(1,.ints .u8 18)],2,0,0,0⟩
abbrev q116:List PB:=[.rows [.i .i64],.rows [.i .i64]]
abbrev q72:List (Nat×PB):=[(0,.rows [.i .i64]),(1,.rows [.i .i64]),(2,.cells q38),(3,.cells [.i .i64,.i .i64,.i .i64]),(4,.cells [.b]),(5,.cells [.ik .i64 0,.ik .i64 0,.ik .i64 0])]
abbrev q15:List (Nat×PB):=[(0,.rows [.i .i64]),(1,.rows [.i .i64]),(2,.cells q38),(3,.cells [.i .i64,.i .i64,.i .i64]),(4,.cells [.b]),(5,.cells [.i .i64,.i .i64,.i .i64]),(62,.rows [.i .i64]),(63,.rows [.i .i64])]
abbrev q18:List (Nat×PB):=[(0,.rows [.i .i64]),(1,.rows [.i .i64]),(2,.cells q38),(3,.cells [.i .i64,.i .i64,.i .i64]),(4,.cells [.b]),(5,.cells [.i .i64,.i .i64,.i .i64])]
abbrev q62:PSt:=⟨[(3,.p 2 0),(4,.p 3 0),(5,.p 4 0),(6,.p 5 0),(8,.i .i64),(9,.ws 62),(10,.ws 63),(11,.fn 211 [.p 4 0]),(12,.i .i64),(15,.i .i64),(16,.b),(17,.i .i64),(53,.ws 62),(54,.i .i64),(55,.i .i64)],q15,64,2,2,2⟩
abbrev q63:PSt:=⟨[(3,.p 2 0),(4,.p 3 0),(5,.p 4 0),(6,.p 5 0),(8,.i .i64),(9,.ws 0),(10,.ws 1),(11,.fn 211 [.p 4 0]),(12,.i .i64),(15,.i .i64),(16,.b),(17,.i .i64),(53,.ws 0),(54,.i .i64),(55,.i .i64)],q18,62,2,2,2⟩
abbrev q86:List (Nat×PV):=[(6,.p 5 0),(7,.b)]
abbrev q49:List (Nat×PB):=[(5,.cells [.i .i64,.i .i64,.i .i64])]
abbrev q130:PSt:=⟨q86,q49,64,2,2,2⟩
abbrev q37:PSt:=⟨[(3,.p 2 0),(4,.p 3 0),(5,.p 4 0),(6,.p 5 0),(8,.i .i64),(9,.ws 62),(10,.ws 63),(11,.fn 211 [.p 4 0]),(12,.i .i64),(53,.ws 62),(54,.i .i64),(55,.i .i64)],q15,64,2,2,2⟩
abbrev q131:PSt:=⟨q86,q49,62,2,2,2⟩
abbrev q39:PSt:=⟨[(3,.p 2 0),(4,.p 3 0),(5,.p 4 0),(6,.p 5 0),(8,.i .i64),(9,.ws 0),(10,.ws 1),(11,.fn 211 [.p 4 0]),(12,.i .i64),(53,.ws 0),(54,.i .i64),(55,.i .i64)],q18,62,2,2,2⟩
abbrev q11:List Lf:=[.bo,.bo,.s,.i .i64,.i .i64,.s,.s,.i .u8,.i .u8,.i .u8,.bo,.bo,.bo,.s,.i .i64,.i .i64,.s,.s,.i .u8,.i .u8,.i .u8]
abbrev q83:List PB:=[.rows q11]
abbrev q29:List PV:=[.i .u8,.bd,.b,.s,.i .i64,.i .i64,.s,.s,.i .u8,.i .u8,.i .u8,.i .u8,.bd,.b,.s,.i .i64,.i .i64,.s,.s,.i .u8,.i .u8,.i .u8,.i .u8,.bd,.b,.s,.i .i64,.i .i64,.s,.s,.i .u8,.i .u8,.i .u8,.rs 21 0 0 .q (some .q),.b,.b]
abbrev q45:List PV:=[.i .u8,.b,.b,.s,.i .i64,.i .i64,.s,.s,.i .u8,.i .u8,.i .u8]
abbrev q20:List PV:=[.bd,.b,.s,.i .i64,.i .i64,.s,.s,.i .u8,.i .u8,.i .u8,.b,.bd,.b,.s,.i .i64,.i .i64,.s,.s,.i .u8,.i .u8,.i .u8]
abbrev q31:List PV:=[.bd,.b,.s,.i .i64,.i .i64,.s,.s,.i .u8,.i .u8,.i .u8]
abbrev q59:List PV:=[.i .u8,.bd,.b,.s,.i .i64,.i .i64,.s,.s,.i .u8,.i .u8,.i .u8,.i .u8,.bd,.b,.s,.i .i64,.i .i64,.s,.s,.i .u8,.i .u8,.i .u8,.i .u8,.bd,.b,.s,.i .i64,.i .i64,.s,.s,.i .u8,.i .u8,.i .u8,.rs 21 2 0 .q (some .q),.b,.b]
abbrev q73:List PV:=[.i .i64,.fn 158 [.p 1 0,.p 2 0],.i .i64,.fn 159 [.p 2 0,.p 3 0,.p 1 0],.i .i64,.fn 161 [.p 2 0,.p 3 0,.p 4 0,.p 1 0],.i .i64,.fn 162 [.p 2 0,.p 4 0]]
abbrev q74:List PX:=[⟨.ret,⟨[(2,.i .i64),(3,.i .i64)],[],1,1,1,1⟩⟩,⟨.exit 0,⟨[],[],1,1,1,1⟩⟩]
abbrev q14:List PV:=[.ik .u8 0,.bk false,.bk false,.sk [],.ik .i64 0,.ik .i64 0,.sk [],.sk [],.ik .u8 0,.ik .u8 0,.ik .u8 0,.ik .u8 0,.bk false,.bk false,.sk [],.ik .i64 0,.ik .i64 0,.sk [],.sk [],.ik .u8 0,.ik .u8 0,.ik .u8 0,.ik .u8 0,.bk false,.bk false,.sk [],.ik .i64 0,.ik .i64 0,.sk [],.sk [],.ik .u8 0,.ik .u8 0,.ik .u8 0,.ws 3,.bk false,.bk false]
abbrev q105:List (Nat×PV):=[(0,.p 0 0),(2,.p 1 0),(3,.p 2 0),(5,.s),(6,.ws 3),(7,.p 4 0),(9,.i .i64)]
abbrev q21:List PV:=[.ik .u8 0,.bk false,.bk false,.sk [],.ik .i64 0,.ik .i64 0,.sk [],.sk [],.ik .u8 0,.ik .u8 0,.ik .u8 0,.ik .u8 0,.bk false,.bk false,.sk [],.ik .i64 0,.ik .i64 0,.sk [],.sk [],.ik .u8 0,.ik .u8 0,.ik .u8 0,.ik .u8 0,.bk false,.bk false,.sk [],.ik .i64 0,.ik .i64 0,.sk [],.sk [],.ik .u8 0,.ik .u8 0,.ik .u8 0,.ws 5,.bk false,.bk false]
abbrev q26:List PV:=[.i .u8,.bk false,.bk false,.sk [],.ik .i64 0,.ik .i64 0,.sk [],.sk [],.ik .u8 0,.ik .u8 0,.ik .u8 0,.ik .u8 0,.bk false,.bk false,.sk [],.ik .i64 0,.ik .i64 0,.sk [],.sk [],.ik .u8 0,.ik .u8 0,.ik .u8 0,.ik .u8 0,.bk false,.bk false,.sk [],.ik .i64 0,.ik .i64 0,.sk [],.sk [],.ik .u8 0,.ik .u8 0,.ik .u8 0,.ws 6,.b,.bk false]
abbrev q71:List PV:=[.bd,.b,.s,.i .i64,.i .i64,.s,.s,.i .u8,.i .u8,.i .u8,.bk false,.bk false,.bk false,.sk [],.ik .i64 0,.ik .i64 0,.sk [],.sk [],.ik .u8 0,.ik .u8 0,.ik .u8 0]
abbrev q36:List (Nat×PB):=[(0,.cells q30),(1,.cells q21),(2,.cells q26),(3,.rows [.i .i64]),(4,.cells q71),(5,.rows q11),(6,.rows q11)]
abbrev q93:PSt:=⟨[(0,.p 0 0),(2,.p 1 0),(3,.p 2 0),(5,.s),(6,.ws 3),(7,.p 4 0),(9,.i .i64),(49,.b)],q36,7,1,0,1⟩
abbrev q126:List (Nat×PV):=[(0,.p 0 0),(2,.p 1 0),(3,.p 2 0),(5,.s),(6,.ws 3)]
abbrev q22:List PV:=[.ik .u8 0,.bk false,.bk false,.sk [],.ik .i64 0,.ik .i64 0,.sk [],.sk [],.ik .u8 0,.ik .u8 0,.ik .u8 0,.ik .u8 0,.bk false,.bk false,.sk [],.ik .i64 0,.ik .i64 0,.sk [],.sk [],.ik .u8 0,.ik .u8 0,.ik .u8 0,.ik .u8 0,.bk false,.bk false,.sk [],.ik .i64 0,.ik .i64 0,.sk [],.sk [],.ik .u8 0,.ik .u8 0,.ik .u8 0,.ws 4,.bk false,.bk false]
abbrev q47:List PV:=[.i .u8,.bk false,.bk false,.sk [],.ik .i64 0,.ik .i64 0,.sk [],.sk [],.ik .u8 0,.ik .u8 0,.ik .u8 0,.ik .u8 0,.bk false,.bk false,.sk [],.ik .i64 0,.ik .i64 0,.sk [],.sk [],.ik .u8 0,.ik .u8 0,.ik .u8 0,.ik .u8 0,.bk false,.bk false,.sk [],.ik .i64 0,.ik .i64 0,.sk [],.sk [],.ik .u8 0,.ik .u8 0,.ik .u8 0,.ws 5,.b,.bk false]
abbrev q65:List PV:=[.i .u8,.bd,.b,.s,.i .i64,.i .i64,.s,.s,.i .u8,.i .u8,.i .u8,.i .u8,.bd,.b,.s,.i .i64,.i .i64,.s,.s,.i .u8,.i .u8,.i .u8,.i .u8,.bd,.b,.s,.i .i64,.i .i64,.s,.s,.i .u8,.i .u8,.i .u8,.ws 4,.b,.b]
abbrev q42:List PV:=[.i .u8,.bd,.b,.s,.i .i64,.i .i64,.s,.s,.i .u8,.i .u8,.i .u8,.i .u8,.bd,.b,.s,.i .i64,.i .i64,.s,.s,.i .u8,.i .u8,.i .u8,.i .u8,.bd,.b,.s,.i .i64,.i .i64,.s,.s,.i .u8,.i .u8,.i .u8,.ws 5,.b,.b]
abbrev q57:List PV:=[.p 0 0,.i .u8,.bd,.b,.s,.i .i64,.i .i64,.s,.s,.i .u8,.i .u8,.i .u8,.i .u8,.bd,.b,.s,.i .i64,.i .i64,.s,.s,.i .u8,.i .u8,.i .u8,.i .u8,.bd,.b,.s,.i .i64,.i .i64,.s,.s,.i .u8,.i .u8,.i .u8,.rs 21 1 0 .q (some .q),.b,.b,.i .i64]
abbrev q60:List PV:=[.p 0 0,.i .u8,.bd,.b,.s,.i .i64,.i .i64,.s,.s,.i .u8,.i .u8,.i .u8,.i .u8,.bd,.b,.s,.i .i64,.i .i64,.s,.s,.i .u8,.i .u8,.i .u8,.i .u8,.bd,.b,.s,.i .i64,.i .i64,.s,.s,.i .u8,.i .u8,.i .u8,.ws 1,.b,.b,.i .i64]
def c107 (n:Nat):FF Tryz.prog 107 [.p 0 0] q91 1 1 [⟨.s,[],[],false⟩]:=funC Tryz.func107 Tryz.call107 [] [] [] [] [0] (cH n)
def c70 (n:Nat):FF Tryz.prog 70 [.p 0 0] q91 1 1 [⟨.tp [.i .u8,.b],[],[],false⟩]:=funC Tryz.func70 Tryz.call70 [(c107 n).e] [] [] [] [0] (bn n)
def c111 (n:Nat):FF Tryz.prog 111 [.p 0 0] q91 1 1 [⟨.i .i64,[],[],false⟩]:=funC Tryz.func111 Tryz.call111 [] [] [] [] [0] (bL n)
def c110 (n:Nat):FF Tryz.prog 110 [.p 0 0,.i .i64,.i .i64] q91 1 1 [⟨.it 129 (.ag [.i .i64,.i .i64]),[],[],true⟩]:=funC Tryz.func110 Tryz.call110 [] [] [] [] [0] (aQ n)
def c234 (_n:Nat):FE Tryz.prog:=libF (J6 Tryz.func234 (by kernel_rfl) (by kernel_rfl) (by kernel_rfl) (by kernel_rfl))
def c182 (n:Nat):PF Tryz.prog 182 [.s,.i .u8] (.i .i64):=aJ Tryz.func182 Tryz.call182 [(c234 n)] [] [] [] (dj n)
def c143 (n:Nat):PF Tryz.prog 143 [.s,.i .u8] (.i .i64):=aJ Tryz.func143 Tryz.call143 [(c182 n).e] [] [] [] (dD n)
def c108 (n:Nat):FF Tryz.prog 108 [.p 0 0,.s] q91 0 1 [⟨.it 129 (.ag [.i .i64,.i .i64]),q56,[],true⟩,⟨.i .u8,q56,[],false⟩]:=funC Tryz.func108 Tryz.call108 [(c70 n).e,(c111 n).e,(c110 n).e,(c143 n).e] [] [] [] [0] (cu n)
def c109 (n:Nat):PF Tryz.prog 109 [.i .u8] (.tp [.s,.s]):=aJ Tryz.func109 Tryz.call109 [] [] [] [] (gC n)
def c192 (n:Nat):PF Tryz.prog 192 [.s,.s] (.b):=aJ Tryz.func192 Tryz.call192 [] [] [] [] (gy n)
def c145 (n:Nat):PF Tryz.prog 145 [.s,.s] (.b):=aJ Tryz.func145 Tryz.call145 [(c192 n).e] [] [] [] (jB n)
def c113 (n:Nat):FF Tryz.prog 113 [.p 0 0,.s] q91 1 1 [⟨.b,[],[],false⟩]:=funC Tryz.func113 Tryz.call113 [(c107 n).e,(c145 n).e] [] [] [] [0] (fJ n)
def c73 (n:Nat):FF Tryz.prog 73 [.p 0 0,.s] q91 0 1 [⟨.b,q56,[],false⟩]:=funC Tryz.func73 Tryz.call73 [(c113 n).e] [] [] [] [0] (aB n)
def c180 (n:Nat):PF Tryz.prog 180 [] (.ag [.s,.s,.s,.s]):=aJ Tryz.func180 Tryz.call180 [] [] [] [] (tG n)
def VM (n:Nat):LP Tryz.prog Tryz.f204.ntmps:=ct [] [] 0 (sb (acM [] [] Tryz.f204) 0) false ⟨[(0,.sl 0 0 4 (some (.k 4))),(1,.s),(7,.i .i64),(8,.i .i64)],[(0,.cells [.s,.s,.s,.s])],1,1,1,1⟩ [] q124 (iK n) n
def c204 (n:Nat):FF Tryz.prog 204 [.sl 0 0 4 (some (.k 4)),.s] [.cells [.s,.s,.s,.s]] 1 1 [⟨.i .i64,[],[],false⟩]:=funC Tryz.func204 Tryz.call204 [] [VM n] [] [] [0] (jF n)
def c184 (n:Nat):PF Tryz.prog 184 [.i .u8] (.tp [.i .u8,.b]):=aJ Tryz.func184 Tryz.call184 [(c180 n).e,(c204 n).e] [] [] [] (qk n)
def c183 (n:Nat):FF Tryz.prog 183 [.p 0 0] [.cells [.p 1 0],.cells q30] 1 2 [⟨.it 129 (.ag [.i .i64,.i .i64]),q111,[],true⟩,⟨.i .u8,q111,[],false⟩]:=funC Tryz.func183 Tryz.call183 [(c70 n).e,(c184 n).e,(c108 n).e] [] [] [] [0,1] (cN n)
def Xs (n:Nat):List (FE Tryz.prog):=[(c111 n).e,(c70 n).e,(c143 n).e,(c110 n).e]
def U3 (n:Nat):LP Tryz.prog Tryz.f185.ntmps:=ct (Xs n) [] 0 (sb (acM [] [] Tryz.f185) 0) false ⟨[(0,.p 0 0),(1,.s),(2,.i .i64),(3,.i .i64),(9,.i .i64),(10,.i .u8),(11,.b)],q56,1,1,0,1⟩ [] [⟨.exit 0,⟨[(0,.p 0 0),(2,.i .i64),(9,.i .i64)],q56,1,1,0,1⟩⟩] (dc n) n
def c185 (n:Nat):FF Tryz.prog 185 [.p 0 0,.s,.i .i64,.i .i64] q91 0 1 [⟨.it 129 (.ag [.i .i64,.i .i64]),q56,[],true⟩,⟨.s,q56,[],false⟩]:=funC Tryz.func185 Tryz.call185 (Xs n) [U3 n] [] [] [0] (cg n)
noncomputable def PW (_n:Nat):Ent:=R2 95 230
theorem Le (n:Nat):fW Tryz.prog (PW n):=PM Tryz.call95 (λs n hl h w=>(Tryz.strconv_Atoi s n hl h w).mono λe w' ⟨h1,t,h2⟩=>⟨h1,h2▸qJ _ _ _⟩) (λs hl h w hg=>QQ s hl h w hg)
def c95 (n:Nat):FE Tryz.prog:=libF (Le n)
def c235 (n:Nat):FF Tryz.prog 235 [.s,.p 0 0] [.cells [.p 1 0],.cells q30] 1 2 [⟨.i .i64,q111,[],false⟩,⟨.it 129 (.ag [.i .i64,.i .i64]),q111,[],true⟩]:=funC Tryz.func235 Tryz.call235 [(c73 n).e,(c108 n).e,(c185 n).e,(c95 n)] [] [] [] [0,1] (dp n)
def c188 (n:Nat):FF Tryz.prog 188 [.p 0 0] q91 0 1 [⟨.it 129 (.ag [.i .i64,.i .i64]),q56,[],true⟩,⟨.ag q33,q56,[],false⟩]:=funC Tryz.func188 Tryz.call188 [(c73 n).e,(c108 n).e,(c185 n).e,(c235 n).e] [] [] [] [0] (lW n)
def c187 (n:Nat):FF Tryz.prog 187 q118 [.cells [.p 2 0],.cells q19,.cells q30] 1 3 [⟨.it 129 (.ag [.i .i64,.i .i64]),[(1,.cells q19),(2,.cells q30)],[],true⟩,⟨.tp [],[(1,.cells q19),(2,.cells q30)],[],false⟩]:=funC Tryz.func187 Tryz.call187 [(c188 n).e] [] [] [] [0,1,2] (jV n)
def c179 (n:Nat):PF Tryz.prog 179 [.i .u8] (.i .i64):=aJ Tryz.func179 Tryz.call179 [] [] [] [] (ig n)
def Xv (n:Nat):List (FE Tryz.prog):=[(c179 n).e]
def Vk (n:Nat):LP Tryz.prog Tryz.f171.ntmps:=ct (Xv n) [] 0 (sb (acM [] [] Tryz.f171) 0) false ⟨[(1,.i .i64),(13,.ai .u8 3),(14,.i .i64)],[],1,0,0,0⟩ [] q125 (hO n) n
def c171 (n:Nat):PF Tryz.prog 171 q112 (.i .i64):=aJ Tryz.func171 Tryz.call171 (Xv n) [Vk n] [] [] (dG n)
def c236 (n:Nat):FF Tryz.prog 236 [.i .i64,.p 2 0,.p 0 0,.p 1 0] [.ints .u8 3,.ints .u8 3,.cells [.i .u8]] 2 3 [⟨.i .u8,[(2,.cells [.i .u8])],[],false⟩]:=funC Tryz.func236 Tryz.call236 [] [] [] [] [2,0,1] (sQ n)
def Vl (n:Nat):List (FE Tryz.prog):=[(c171 n).e,(c236 n).e]
def Vn (n:Nat):LP Tryz.prog Tryz.f191.ntmps:=ct (Vl n) [] 1 (sb (acM [0] [] Tryz.f191) 1) false ⟨[(6,.p 2 0),(12,.fn 236 [.p 5 0,.p 1 0,.p 0 0]),(13,.p 6 0),(14,.i .i64)],[(0,.ints .u8 3),(1,.ints .u8 3),(2,.ints .u8 3),(5,.cells [.i .u8]),(6,.ints .u8 3)],7,0,0,0⟩ [] [⟨.exit 2,⟨[(6,.p 2 0),(13,.p 6 0)],[(2,.ints .u8 3),(6,.ints .u8 3)],7,0,0,0⟩⟩] (rA n) n
def c191 (n:Nat):PF Tryz.prog 191 q121 (.tp q112):=aJ Tryz.func191 Tryz.call191 (Vl n) [Vn n] [0] [] (eN n)
def c186 (n:Nat):FF Tryz.prog 186 [.p 0 0] [.cells [.fn 1000185 [.p 1 0]],.cells q30] 1 2 [⟨.it 129 (.ag [.i .i64,.i .i64]),q111,[],true⟩,⟨.s,q111,[],false⟩]:=funC Tryz.func186 Tryz.call186 [(c185 n).e] [] [] [] [0,1] (iN n)
def c189 (n:Nat):FF Tryz.prog 189 [.p 0 0,.p 2 0] q101 2 4 [⟨.it 129 (.ag [.i .i64,.i .i64]),q98,[],true⟩,⟨.tp [],q98,[],false⟩]:=funC Tryz.func189 Tryz.call189 [(c186 n).e] [] [] [] [0,2,1,3] (kb n)
def c190 (n:Nat):FF Tryz.prog 190 [.p 0 0,.p 2 0] q101 2 4 [⟨.it 129 (.ag [.i .i64,.i .i64]),q98,[],true⟩,⟨.tp [],q98,[],false⟩]:=funC Tryz.func190 Tryz.call190 [(c186 n).e] [] [] [] [0,2,1,3] (jW n)
def c144 (n:Nat):FF Tryz.prog 144 [.p 0 0] q91 0 1 [⟨.it 129 (.ag [.i .i64,.i .i64]),q56,[],true⟩,⟨.tp [.ag q19,.ai .i64 3],q56,[],false⟩]:=funC Tryz.func144 Tryz.call144 [(c183 n).e,(c111 n).e,(c187 n).e,(c191 n).e,(c73 n).e,(c189 n).e,(c190 n).e] [] [0] [] [0] (jL n)
def c96 (n:Nat):PF Tryz.prog 96 [.i .i64] (.i .i64):=aJ Tryz.func96 Tryz.call96 [] [] [] [] (dN n)
theorem pure_seasons_Check (n:Nat):∀a r,dN n a=some r->k7 Tryz.prog 96 (argP [.i .i64] a) (encP (.i .i64) r):=λa r h=>(c96 n).ok a r h
def c55 (n:Nat):PF Tryz.prog 55 q89 (.tp [.i .i64,.b]):=aJ Tryz.func55 Tryz.call55 [(c95 n),(c96 n).e] [] [] [] (bz n)
def c288 (n:Nat):PF Tryz.prog 288 [.i .i32] (.b):=aJ Tryz.func288 Tryz.call288 [] [] [] [] (ee n)
def L2 (n:Nat):List (FE Tryz.prog):=[(c143 n).e,(c288 n).e]
def Vf (n:Nat):LP Tryz.prog Tryz.f258.ntmps:=ct (L2 n) [] 0 (sb (acM [] [] Tryz.f258) 0) false ⟨[(175,.p 0 0)],[(0,.iter)],1,0,0,0⟩ [] [⟨.ret,⟨q94,[],1,0,0,0⟩⟩,⟨.exit 9,⟨[],[],1,0,0,0⟩⟩] (dQ n) n
def WI (n:Nat):LP Tryz.prog Tryz.f258.ntmps:=ct (L2 n) [] 2 (sb (sb (acM [] [] Tryz.f258) 1).body 2) false ⟨q122,[],128,0,0,0⟩ [] [⟨.exit 3,⟨[(8,.i .i64),(9,.i .i64)],[],128,0,0,0⟩⟩] (mZ n) n
def UN (n:Nat):LP Tryz.prog Tryz.f258.ntmps:=ct (L2 n) [] 2 (sb (sb (acM [] [] Tryz.f258) 1).body 2) false ⟨q122,[],56,0,0,0⟩ [] [⟨.exit 3,⟨[(8,.i .i64),(9,.i .i64)],[],56,0,0,0⟩⟩] (mh n) n
def WU (n:Nat):LP Tryz.prog Tryz.f258.ntmps:=ct (L2 n) [altL (WI n) (UN n) rfl] 1 (sb (acM [] [] Tryz.f258) 1) false ⟨[(0,.s),(7,.s),(8,.i .i64),(9,.i .i64)],[],0,0,0,0⟩ [] [⟨.ret,q123⟩,⟨.exit 1,q129⟩] (dP n) n
def c258 (n:Nat):PF Tryz.prog 258 [.s,.i .i32] (.i .i64):=aJ Tryz.func258 Tryz.call258 (L2 n) [Vf n,WU n,noL 3 (sb (acM [] [] Tryz.f258) 3)] [] [] (eD n)
def c252 (n:Nat):PF Tryz.prog 252 [.s,.i .i32] (.b):=aJ Tryz.func252 Tryz.call252 [(c258 n).e] [] [] [] (dR n)
def c269 (n:Nat):FF Tryz.prog 269 [.i .i32,.p 0 0] [.cells [.s]] 1 1 [⟨.b,[],[],false⟩]:=funC Tryz.func269 Tryz.call269 [(c252 n).e] [] [] [] [0] (jX n)
def Vt (n:Nat):List (FE Tryz.prog):=[(c269 n).e]
def W9 (n:Nat):LP Tryz.prog Tryz.f294.ntmps:=ct (Vt n) [] 0 (sb (acM [] [] Tryz.f294) 0) false ⟨[(1,.fn 269 [.p 0 0]),(2,.b),(10,.p 1 0)],[(0,.cells [.s]),(1,.iter)],2,1,1,1⟩ [] [⟨.ret,⟨[(6,.i .i64)],[],2,1,1,1⟩⟩,⟨.exit 0,⟨[],[],2,1,1,1⟩⟩] (cQ n) n
def c294 (n:Nat):FF Tryz.prog 294 [.s,.fn 269 [.p 0 0],.b] [.cells [.s]] 1 1 [⟨.i .i64,[],[],false⟩]:=funC Tryz.func294 Tryz.call294 (Vt n) [W9 n] [] [] [0] (lD n)
def c268 (n:Nat):FF Tryz.prog 268 [.s,.fn 269 [.p 0 0]] [.cells [.s]] 1 1 [⟨.i .i64,[],[],false⟩]:=funC Tryz.func268 Tryz.call268 [(c294 n).e] [] [] [] [0] (lB n)
def c228 (n:Nat):PF Tryz.prog 228 [.s,.s] (.b):=aJ Tryz.func228 Tryz.call228 [(c268 n).e] [] [] [] (gD n)
def Wa (n:Nat):LP Tryz.prog Tryz.f199.ntmps:=ct [] [] 0 (sb (acM [] [] Tryz.f199) 0) false ⟨[(0,.s),(1,.i .u8)],[],0,0,0,0⟩ [] [⟨.exit 0,⟨[(0,.s)],[],0,0,0,0⟩⟩] (dE n) n
def c199 (n:Nat):PF Tryz.prog 199 [.s,.i .u8] (.s):=aJ Tryz.func199 Tryz.call199 [] [Wa n] [] [] (gj n)
def U8 (n:Nat):LP Tryz.prog Tryz.f270.ntmps:=ct [] [] 0 (sb (acM [] [] Tryz.f270) 0) false ⟨[(0,.s),(1,.i .u8)],[],0,0,0,0⟩ [] [⟨.exit 0,⟨[(0,.s)],[],0,0,0,0⟩⟩] (fp n) n
def c270 (n:Nat):PF Tryz.prog 270 [.s,.i .u8] (.s):=aJ Tryz.func270 Tryz.call270 [] [U8 n] [] [] (gK n)
def c229 (n:Nat):PF Tryz.prog 229 [.s,.sk [48]] (.s):=aJ Tryz.func229 Tryz.call229 [(c199 n).e,(c270 n).e] [] [] [] (oh n)
def c168 (n:Nat):PF Tryz.prog 168 [.s,.sk [88]] (.i .i64):=aJ Tryz.func168 Tryz.call168 [(c182 n).e] [noL 0 (sb (acM [] [] Tryz.f168) 0)] [] [] (ju n)
def c131 (n:Nat):PF Tryz.prog 131 [.s,.sk [88]] (.i .i64):=aJ Tryz.func131 Tryz.call131 [(c168 n).e] [] [] [] (m8 n)
def c97 (n:Nat):PF Tryz.prog 97 [.s,.sk [88]] (.b):=aJ Tryz.func97 Tryz.call97 [(c131 n).e] [] [] [] (iM n)
def c226 (n:Nat):PF Tryz.prog 226 q128 (.b):=aJ Tryz.func226 Tryz.call226 [(c97 n).e] [] [] [] (dn n)
noncomputable def NM (_n:Nat):Ent:=Ob 276
theorem Ju (n:Nat):fW Tryz.prog (NM n):=M1 Tryz.call276 λs h v hv w=>(Tryz.strconv_ParseInt_10_at64_ok s h v hv w).mono λe w' ⟨h1,h2⟩=>⟨h1,h2.elim (λh=>h▸RowKit.Below.refl _ _) (λ⟨t,h⟩=>h▸qJ _ _ _)⟩
def c276 (n:Nat):FE Tryz.prog:=libF (Ju n)
def XE (n:Nat):LP Tryz.prog Tryz.f277.ntmps:=ct [] [] 0 (sb (acM [] [] Tryz.f277) 0) false ⟨[(4,.i .i64),(9,.i .i64),(10,.i .i64)],[],0,0,0,0⟩ [] [⟨.exit 0,q123⟩] (kJ n) n
def c277 (n:Nat):PF Tryz.prog 277 [.i .i64] (.tp [.i .i64,.i .i64]):=aJ Tryz.func277 Tryz.call277 [] [XE n] [] [] (pt n)
def c300 (n:Nat):PF Tryz.prog 300 [.i .i64] (.i .u64):=aJ Tryz.func300 Tryz.call300 [] [] [] [] (uv n)
def c299 (n:Nat):PF Tryz.prog 299 [.i .u64,.i .u64] (.tp [.i .u64,.i .u64]):=aJ Tryz.func299 Tryz.call299 [] [] [] [] (kB n)
def c301 (n:Nat):PF Tryz.prog 301 [.i .u64,.b] (.tp [.i .i64,.i .i64]):=aJ Tryz.func301 Tryz.call301 [] [] [] [] (tq n)
def c278 (n:Nat):PF Tryz.prog 278 [.i .i64,.i .i64] (.tp [.i .i64,.i .i64]):=aJ Tryz.func278 Tryz.call278 [(c300 n).e,(c299 n).e,(c301 n).e] [] [] [] (wA n)
def c237 (n:Nat):PF Tryz.prog 237 q128 (.tp [.i .i64,.i .i64]):=aJ Tryz.func237 Tryz.call237 [(c276 n),(c277 n).e,(c278 n).e] [] [] [] (eu n)
def c230 (n:Nat):PF Tryz.prog 230 q128 (.b):=aJ Tryz.func230 Tryz.call230 [(c228 n).e,(c237 n).e] [] [] [] (be n)
def c174 (n:Nat):PF Tryz.prog 174 q128 (.i .i64):=aJ Tryz.func174 Tryz.call174 [(c228 n).e,(c229 n).e,(c226 n).e,(c230 n).e] [] [] [] (cL n)
theorem pure_yearforms_Check (n:Nat):∀a r,cL n a.1 a.2.1 a.2.2.1 a.2.2.2.1 a.2.2.2.2=some r->k7 Tryz.prog 174 (argP q128 a) (encP (.i .i64) r):=λa r h=>(c174 n).ok a r h
def c193 (n:Nat):PF Tryz.prog 193 q128 (.tp [.i .i64,.i .i64]):=aJ Tryz.func193 Tryz.call193 [(c174 n).e,(c226 n).e,(c237 n).e] [] [] [] (eO n)
noncomputable def zJ (l:List V):Option (Int):=match l with
 | [.i .i64 a0]=>some (a0)
 | _=>none
noncomputable def N9 (n:Nat):Ent:=Ds 266 zJ (λa=>fG n a) (λr=>.tp [.i .i64 r.1,.i .i64 r.2.1,.i .i64 r.2.2])
theorem JJ (n:Nat):fW Tryz.prog (N9 n):=uu (arg:=λa=>[.i .i64 a]) Tryz.call266 (λl a h=>by
 unfold zJ at h
 split at h
 ·cases h;rfl
 ·cases h) (λa=>rfl) (λa r h=>tg n (λx r h=>pure_seasons_Check n x r h) a r h)
def c266 (n:Nat):FE Tryz.prog:=libF (JJ n)
def c279 (n:Nat):PF Tryz.prog 279 [.i .i64] (.i .i64):=aJ Tryz.func279 Tryz.call279 [] [] [] [] (jo n)
def c282 (n:Nat):PF Tryz.prog 282 [.i .i64,.i .i64] (.i .i64):=aJ Tryz.func282 Tryz.call282 [(c279 n).e] [] [] [] (ks n)
def c311 (n:Nat):PF Tryz.prog 311 [.i .i64,.i .i64] (.tp [.i .i64,.i .i64]):=aJ Tryz.func311 Tryz.call311 [] [] [] [] (Ho n)
def c292 (n:Nat):PF Tryz.prog 292 [.i .i64,.i .i64] (.tp [.i .i64,.i .i64]):=aJ Tryz.func292 Tryz.call292 [(c311 n).e] [] [] [] (lU n)
theorem pure_ints_Div (n:Nat):∀a r,lU n a.1 a.2=some r->k7 Tryz.prog 292 (argP [.i .i64,.i .i64] a) (encP (.tp [.i .i64,.i .i64]) r):=λa r h=>(c292 n).ok a r h
noncomputable def zj (l:List V):Option (Int):=match l with
 | [.i .i64 a0]=>some (a0)
 | _=>none
noncomputable def LQ (n:Nat):Ent:=Ds 302 zj (λa=>fF n a) (λr=>.i .i64 r)
theorem Jt (n:Nat):fW Tryz.prog (LQ n):=uu (arg:=λa=>[.i .i64 a]) Tryz.call302 (λl a h=>by
 unfold zj at h
 split at h
 ·cases h;rfl
 ·cases h) (λa=>rfl) (λa r h=>uO n (λx y r h=>pure_ints_Div n (x,y) r h) a r h)
def c302 (n:Nat):FE Tryz.prog:=libF (Jt n)
def c280 (n:Nat):PF Tryz.prog 280 [.i .i64] (.i .i64):=aJ Tryz.func280 Tryz.call280 [(c302 n)] [] [] [] (lI n)
def c240 (n:Nat):PF Tryz.prog 240 [.i .i64] (.tp [.i .i64,.i .i64]):=aJ Tryz.func240 Tryz.call240 [(c279 n).e,(c280 n).e] [] [] [] (lJ n)
def c303 (n:Nat):PF Tryz.prog 303 [.i .i64] (.tp [.b,.i .i64]):=aJ Tryz.func303 Tryz.call303 [(c279 n).e,(c302 n)] [] [] [] (ku n)
theorem pure_years_Leap (n:Nat):∀a r,ku n a=some r->k7 Tryz.prog 303 (argP [.i .i64] a) (encP (.tp [.b,.i .i64]) r):=λa r h=>(c303 n).ok a r h
noncomputable def Aj (l:List V):Option (Int×Int):=match l with
 | [.i .i64 a0,.i .i64 a1]=>some (a0,a1)
 | _=>none
noncomputable def Ld (n:Nat):Ent:=Ds 283 Aj (λa=>eK n a.1 a.2) (λr=>.i .i64 r)
theorem JR (n:Nat):fW Tryz.prog (Ld n):=uu (arg:=λa=>[.i .i64 a.1,.i .i64 a.2]) Tryz.call283 (λl a h=>by
 unfold Aj at h
 split at h
 ·cases h;rfl
 ·cases h) (λa=>rfl) (λa r h=>uI n (λx r h=>pure_years_Leap n x r h) a.1 a.2 r h)
def c283 (n:Nat):FE Tryz.prog:=libF (JR n)
def V5 (n:Nat):List (FE Tryz.prog):=[(c282 n).e,(c240 n).e,(c283 n)]
def Xx (n:Nat):LP Tryz.prog Tryz.f244.ntmps:=ct (V5 n) [] 0 (sb (acM [] [] Tryz.f244) 0) false ⟨[(0,.i .i64),(7,.i .i64),(22,.i .i64),(23,.i .i64)],[],0,0,0,0⟩ [] [⟨.exit 0,⟨[(7,.i .i64)],[],0,0,0,0⟩⟩] (bO n) n
def c244 (n:Nat):PF Tryz.prog 244 [.i .i64,.i .i64] (.tp [.i .i64,.i .i64]):=aJ Tryz.func244 Tryz.call244 (V5 n) [Xx n] [] [] (fE n)
noncomputable def zO (l:List V):Option (Int×Int):=match l with
 | [.i .i64 a0,.i .i64 a1]=>some (a0,a1)
 | _=>none
noncomputable def Oq (n:Nat):Ent:=Ds 291 zO (λa=>rR n a.1 a.2) (λr=>.tp [.i .i64 r.1,.i .i64 r.2])
theorem I4 (n:Nat):fW Tryz.prog (Oq n):=uu (arg:=λa=>[.i .i64 a.1,.i .i64 a.2]) Tryz.call291 (λl a h=>by
 unfold zO at h
 split at h
 ·cases h;rfl
 ·cases h) (λa=>rfl) (λa r h=>Ba n a.1 a.2 r h)
def c291 (n:Nat):FE Tryz.prog:=libF (I4 n)
def c293 (n:Nat):PF Tryz.prog 293 [.i .i64,.i .i64] (.tp [.i .i64,.i .i64]):=aJ Tryz.func293 Tryz.call293 [] [] [] [] (wo n)
def c267 (n:Nat):PF Tryz.prog 267 [.i .i64,.i .i64,.i .i64] (.tp [.i .i64,.i .i64,.i .i64]):=aJ Tryz.func267 Tryz.call267 [(c282 n).e,(c291 n),(c292 n).e,(c293 n).e,(c279 n).e] [] [] [] (oY n)
def c245 (n:Nat):PF Tryz.prog 245 [.i .i64,.i .i64] (.tp [.i .i64,.i .i64]):=aJ Tryz.func245 Tryz.call245 [(c244 n).e,(c283 n)] [] [] [] (gR n)
def c227 (n:Nat):PF Tryz.prog 227 [.i .i64,.i .i64] (.tp [.ag q67,.i .i64]):=aJ Tryz.func227 Tryz.call227 [(c266 n),(c244 n).e,(c267 n).e,(c245 n).e] [] [] [] (il n)
def c169 (n:Nat):PF Tryz.prog 169 q89 (.b):=aJ Tryz.func169 Tryz.call169 [(c174 n).e,(c55 n).e,(c226 n).e,(c193 n).e,(c227 n).e] [] [] [] (fQ n)
def Xk (n:Nat):LP Tryz.prog Tryz.f170.ntmps:=ct [] [] 0 (sb (acM [] [] Tryz.f170) 0) false q133 [] [⟨.ret,⟨[(4,.b)],[],0,0,0,0⟩⟩,⟨.exit 0,q129⟩] (dr n) n
def c170 (n:Nat):PF Tryz.prog 170 q30 (.b):=aJ Tryz.func170 Tryz.call170 [] [Xk n] [] [] (dl n)
def X2 (n:Nat):LP Tryz.prog Tryz.f56.ntmps:=ct [] [] 0 (sb (acM [] [] Tryz.f56) 0) false ⟨[(3,.i .i64),(10,.ag [.s,.s]),(11,.i .i64)],[],1,0,0,0⟩ [] [⟨.exit 0,⟨[(3,.i .i64)],[],1,0,0,0⟩⟩] (cb n) n
def c56 (n:Nat):PF Tryz.prog 56 q89 (.i .i64):=aJ Tryz.func56 Tryz.call56 [] [X2 n] [] [] (bg n)
def c136 (n:Nat):PF Tryz.prog 136 q89 (.i .i64):=aJ Tryz.func136 Tryz.call136 [(c55 n).e,(c169 n).e,(c170 n).e,(c56 n).e,(c171 n).e] [] [] [] (jr n)
def c260 (n:Nat):PF Tryz.prog 260 q30 (.b):=aJ Tryz.func260 Tryz.call260 [] [] [] [] (kK n)
def XC (n:Nat):List (FE Tryz.prog):=[(c260 n).e]
def V6 (n:Nat):LP Tryz.prog Tryz.f208.ntmps:=ct (XC n) [] 0 (sb (acM [] [] Tryz.f208) 0) false ⟨[(0,.s),(5,.ws 0),(7,.i .i64),(8,.i .i64)],q82,1,0,0,0⟩ [.nilT 5 0 [.i .i64]] [⟨.exit 0,⟨[(5,.ws 0)],q82,1,0,0,0⟩⟩] (fZ n) n
def c208 (n:Nat):FF Tryz.prog 208 q30 [] 0 0 [⟨.ws 0,q82,[0],false⟩]:=funC Tryz.func208 Tryz.call208 (XC n) [V6 n] [] [] [] (fA n)
def c154 (n:Nat):FF Tryz.prog 154 q89 [] 0 0 [⟨.ag q38,[(0,.rows [.i .i64]),(1,.rows [.i .i64])],[0,1],false⟩]:=funC Tryz.func154 Tryz.call154 [(c55 n).e,(c208 n).e] [] [] [] [] (qj n)
def c209 (n:Nat):FF Tryz.prog 209 [.ws 0] q99 1 1 [⟨.ws 1,[(1,.rows [.i .i64])],[1],false⟩]:=funC Tryz.func209 Tryz.call209 [] [] [] [] [0] (jH n)
def VL (n:Nat):LP Tryz.prog Tryz.f210.ntmps:=ct [] [] 0 (sb (acM [] [] Tryz.f210) 0) false ⟨[(0,.ws 0),(2,.i .i64),(3,.i .i64)],q82,1,1,0,1⟩ [] [⟨.exit 0,⟨[],q82,1,1,0,1⟩⟩] (jP n) n
def c210 (n:Nat):FF Tryz.prog 210 [.ws 0] q99 0 1 [⟨.tp [],q82,[],false⟩]:=funC Tryz.func210 Tryz.call210 [] [VL n] [] [] [0] (iV n)
def Wh (n:Nat):LP Tryz.prog Tryz.f305.ntmps:=ct [] [] 0 (sb (acM [] [] Tryz.f305) 0) false ⟨[(0,.s),(9,.p 0 0)],[(0,.iter)],1,0,0,0⟩ [] [⟨.ret,q107⟩,⟨.exit 0,⟨[(0,.s)],[],1,0,0,0⟩⟩] (iO n) n
def c305 (n:Nat):PF Tryz.prog 305 [.s] (.i .i64):=aJ Tryz.func305 Tryz.call305 [] [Wh n] [] [] (kh n)
def WZ (n:Nat):LP Tryz.prog Tryz.f317.ntmps:=ct [] [] 0 (sb (acM [] [] Tryz.f317) 0) false ⟨[(1,.i .u8),(5,.i .i64),(9,.ws 0),(10,.i .i64),(11,.i .i64)],[(0,.rows [.i .u8])],1,0,0,0⟩ [] [⟨.exit 0,⟨[(5,.i .i64)],[],1,0,0,0⟩⟩] (gP n) n
def c317 (n:Nat):PF Tryz.prog 317 [.s,.i .u8] (.i .i64):=aJ Tryz.func317 Tryz.call317 [] [WZ n] [] [] (mn n)
def c306 (n:Nat):PF Tryz.prog 306 [.s] (.tp [.i .i64,.i .i64]):=aJ Tryz.func306 Tryz.call306 [(c305 n).e,(c317 n).e] [] [] [] (qa n)
def c318 (n:Nat):PF Tryz.prog 318 [.i .i64] (.i .i64):=aJ Tryz.func318 Tryz.call318 [(c277 n).e] [] [] [] (pY n)
def c307 (n:Nat):PF Tryz.prog 307 q30 (.b):=aJ Tryz.func307 Tryz.call307 [(c318 n).e] [] [] [] (md n)
def VP (n:Nat):LP Tryz.prog Tryz.f319.ntmps:=ct [] [] 0 (sb (acM [] [] Tryz.f319) 0) false ⟨[(1,.i .i64),(4,.p 0 0),(5,.i .i64)],[(0,.ints .u8 18)],1,0,0,0⟩ [] [⟨.exit 0,⟨[(4,.p 0 0)],[(0,.ints .u8 18)],1,0,0,0⟩⟩] (iS n) n
def c319 (n:Nat):PF Tryz.prog 319 q30 (.ai .u8 18):=aJ Tryz.func319 Tryz.call319 [] [VP n] [] [] (lA n)
def c320 (n:Nat):PF Tryz.prog 320 [.s,.ai .u8 18] (.i .i64):=aJ Tryz.func320 Tryz.call320 [(c317 n).e] [] [] [] (gz n)
def QM (n:Nat):List (FE Tryz.prog):=[(c319 n).e,(c320 n).e]
def Wy (n:Nat):LP Tryz.prog Tryz.f308.ntmps:=ct (QM n) [] 0 (sb (acM [] [] Tryz.f308) 0) false q77 [] [⟨.exit 0,q77⟩] (fL n) n
def VN (n:Nat):LP Tryz.prog Tryz.f308.ntmps:=ct (QM n) [] 1 (sb (acM [] [] Tryz.f308) 1) false ⟨[(0,.s),(2,.b),(8,.i .u8),(9,.i .u8),(10,.p 0 0),(11,.p 1 0),(12,.i .i64)],[(0,.ints .u8 18),(1,.ints .u8 18)],74,0,0,0⟩ [] [⟨.ret,⟨[(6,.i .i64),(7,.i .i64)],[],74,0,0,0⟩⟩,⟨.exit 2,⟨[(0,.s),(2,.b),(8,.i .u8),(11,.p 1 0),(12,.i .i64)],[(1,.ints .u8 18)],74,0,0,0⟩⟩] (cE n) n
def WW (n:Nat):LP Tryz.prog Tryz.f308.ntmps:=ct (QM n) [] 2 (sb (acM [] [] Tryz.f308) 2) false ⟨[(0,.s),(8,.i .u8),(11,.p 1 0),(12,.i .i64)],[(1,.ints .u8 18)],74,0,0,0⟩ [] [⟨.exit 5,⟨[(0,.s),(11,.p 1 0)],[(1,.ints .u8 18)],74,0,0,0⟩⟩] (bB n) n
def c308 (n:Nat):PF Tryz.prog 308 [.s,.i .i64,.b] (.tp [.i .i64,.i .i64]):=aJ Tryz.func308 Tryz.call308 (QM n) [Wy n,VN n,WW n] [] [] (dB n)
def c289 (n:Nat):PF Tryz.prog 289 q30 (.tp [.i .i64,.i .i64]):=aJ Tryz.func289 Tryz.call289 [(c305 n).e,(c306 n).e,(c307 n).e,(c308 n).e] [] [] [] (so n)
def c309 (n:Nat):PF Tryz.prog 309 [.s] (.tp [.i .i64,.i .i64]):=aJ Tryz.func309 Tryz.call309 [(c305 n).e,(c317 n).e] [] [] [] (lS n)
def c290 (n:Nat):PF Tryz.prog 290 q30 (.tp [.i .i64,.i .i64]):=aJ Tryz.func290 Tryz.call290 [(c305 n).e,(c307 n).e,(c309 n).e,(c308 n).e] [] [] [] (rS n)
def c261 (n:Nat):PF Tryz.prog 261 [.s,.i .i64,.b,.i .i64] (.tp [.i .i64,.b]):=aJ Tryz.func261 Tryz.call261 [(c289 n).e,(c290 n).e] [] [] [] (fO n)
def c212 (n:Nat):FF Tryz.prog 212 [.ag q38,.i .i64,.b] q116 2 2 [⟨.tp [.i .i64,.b],[],[],false⟩]:=funC Tryz.func212 Tryz.call212 [(c226 n).e,(c193 n).e,(c261 n).e] [] [] [] [0,1] (cq n)
def c211 (n:Nat):FF Tryz.prog 211 [.i .i64,.i .i64,.p 0 0] [.cells [.b]] 1 1 [⟨.b,[],[],false⟩]:=funC Tryz.func211 Tryz.call211 [] [] [] [] [0] (cR n)
def c262 (n:Nat):PF Tryz.prog 262 [.i .i64,.i .i64] (.tp [.i .i64,.i .i64]):=aJ Tryz.func262 Tryz.call262 [(c282 n).e,(c283 n)] [] [] [] (oS n)
def c213 (n:Nat):FF Tryz.prog 213 [.ag q38,.i .i64,.i .i64] q116 2 2 [⟨.i .i64,[],[],false⟩]:=funC Tryz.func213 Tryz.call213 [(c262 n).e] [] [] [] [0,1] (fc n)
def sD (n:Nat):List (FE Tryz.prog):=[(c209 n).e,(c210 n).e,(c212 n).e,(c211 n).e,(c213 n).e]
def Wv (n:Nat):LP Tryz.prog Tryz.f155.ntmps:=fg (sD n) [] 1003 (sb (acM [] [3,17,20,23,30] Tryz.f155) 1003) false ⟨[(3,.p 2 0),(4,.p 3 0),(5,.p 4 0),(6,.p 5 0),(8,.ik .i64 1),(9,.ws 0),(10,.ws 1),(25,.b)],q72,62,2,2,2⟩ [⟨.nrm,⟨[(3,.p 2 0),(4,.p 3 0),(5,.p 4 0),(6,.p 5 0),(8,.ik .i64 (-1)),(9,.ws 62),(10,.ws 63)],[(0,.rows [.i .i64]),(1,.rows [.i .i64]),(2,.cells q38),(3,.cells [.i .i64,.i .i64,.i .i64]),(4,.cells [.b]),(5,.cells [.ik .i64 0,.ik .i64 0,.ik .i64 0]),(62,.rows [.i .i64]),(63,.rows [.i .i64])],64,2,2,2⟩⟩,⟨.nrm,⟨[(3,.p 2 0),(4,.p 3 0),(5,.p 4 0),(6,.p 5 0),(8,.ik .i64 1),(9,.ws 0),(10,.ws 1)],q72,62,2,2,2⟩⟩] (jn n)
def K7 (n:Nat):LP Tryz.prog Tryz.f155.ntmps:=fg (sD n) [] 1020 (sb (sb (sb (sb (acM [] [3,17,20,23,30] Tryz.f155) 0).body 1).body 1017) 1020) false ⟨[(3,.p 2 0),(4,.p 3 0),(5,.p 4 0),(6,.p 5 0),(8,.i .i64),(9,.ws 62),(10,.ws 63),(11,.fn 211 [.p 4 0]),(12,.i .i64),(15,.i .i64),(16,.b),(53,.ws 62),(54,.i .i64),(55,.i .i64)],q15,64,2,2,2⟩ [⟨.nrm,⟨[(3,.p 2 0),(4,.p 3 0),(5,.p 4 0),(6,.p 5 0),(8,.i .i64),(9,.ws 62),(10,.ws 63),(11,.fn 211 [.p 4 0]),(12,.i .i64),(15,.i .i64),(16,.b),(53,.ws 62),(54,.i .i64),(55,.i .i64),(76,.b)],q15,64,2,2,2⟩⟩] (li n)
def iO9 (n:Nat):LP Tryz.prog Tryz.f155.ntmps:=fg (sD n) [] 1020 (sb (sb (sb (sb (acM [] [3,17,20,23,30] Tryz.f155) 0).body 1).body 1017) 1020) false ⟨[(3,.p 2 0),(4,.p 3 0),(5,.p 4 0),(6,.p 5 0),(8,.i .i64),(9,.ws 0),(10,.ws 1),(11,.fn 211 [.p 4 0]),(12,.i .i64),(15,.i .i64),(16,.b),(53,.ws 0),(54,.i .i64),(55,.i .i64)],q18,62,2,2,2⟩ [⟨.nrm,⟨[(3,.p 2 0),(4,.p 3 0),(5,.p 4 0),(6,.p 5 0),(8,.i .i64),(9,.ws 0),(10,.ws 1),(11,.fn 211 [.p 4 0]),(12,.i .i64),(15,.i .i64),(16,.b),(53,.ws 0),(54,.i .i64),(55,.i .i64),(76,.b)],q18,62,2,2,2⟩⟩] (fw n)
def KC (n:Nat):LP Tryz.prog Tryz.f155.ntmps:=fg (sD n) [] 1023 (sb (sb (sb (sb (acM [] [3,17,20,23,30] Tryz.f155) 0).body 1).body 1017) 1023) false q62 [⟨.nrm,q62⟩] (lw n)
def Hr (n:Nat):LP Tryz.prog Tryz.f155.ntmps:=fg (sD n) [] 1023 (sb (sb (sb (sb (acM [] [3,17,20,23,30] Tryz.f155) 0).body 1).body 1017) 1023) false q63 [⟨.nrm,q63⟩] (fk n)
def M9 (n:Nat):LP Tryz.prog Tryz.f155.ntmps:=fg (sD n) [] 1030 (sb (sb (sb (sb (sb (acM [] [3,17,20,23,30] Tryz.f155) 0).body 1).body 1017) 2).body 1030) false ⟨[(3,.p 2 0),(4,.p 3 0),(5,.p 4 0),(6,.p 5 0),(8,.i .i64),(9,.ws 62),(10,.ws 63),(11,.fn 211 [.p 4 0]),(12,.i .i64),(15,.i .i64),(16,.b),(17,.i .i64),(19,.i .i64),(53,.ws 62),(54,.i .i64),(55,.i .i64),(94,.ws 63),(95,.i .i64),(96,.i .i64)],q15,64,2,2,2⟩ [⟨.nrm,⟨[(3,.p 2 0),(4,.p 3 0),(5,.p 4 0),(6,.p 5 0),(8,.i .i64),(9,.ws 62),(10,.ws 63),(11,.fn 211 [.p 4 0]),(12,.i .i64),(15,.i .i64),(16,.b),(17,.i .i64),(19,.i .i64),(53,.ws 62),(54,.i .i64),(55,.i .i64),(94,.ws 63),(95,.i .i64),(96,.i .i64),(119,.b)],q15,64,2,2,2⟩⟩] (ll n)
def Ht (n:Nat):LP Tryz.prog Tryz.f155.ntmps:=fg (sD n) [] 1030 (sb (sb (sb (sb (sb (acM [] [3,17,20,23,30] Tryz.f155) 0).body 1).body 1017) 2).body 1030) false ⟨[(3,.p 2 0),(4,.p 3 0),(5,.p 4 0),(6,.p 5 0),(8,.i .i64),(9,.ws 0),(10,.ws 1),(11,.fn 211 [.p 4 0]),(12,.i .i64),(15,.i .i64),(16,.b),(17,.i .i64),(19,.i .i64),(53,.ws 0),(54,.i .i64),(55,.i .i64),(94,.ws 1),(95,.i .i64),(96,.i .i64)],q18,62,2,2,2⟩ [⟨.nrm,⟨[(3,.p 2 0),(4,.p 3 0),(5,.p 4 0),(6,.p 5 0),(8,.i .i64),(9,.ws 0),(10,.ws 1),(11,.fn 211 [.p 4 0]),(12,.i .i64),(15,.i .i64),(16,.b),(17,.i .i64),(19,.i .i64),(53,.ws 0),(54,.i .i64),(55,.i .i64),(94,.ws 1),(95,.i .i64),(96,.i .i64),(119,.b)],q18,62,2,2,2⟩⟩] (ie n)
def Rq (n:Nat):LP Tryz.prog Tryz.f155.ntmps:=ct (sD n) [altL (M9 n) (Ht n) rfl] 2 (sb (sb (sb (sb (acM [] [3,17,20,23,30] Tryz.f155) 0).body 1).body 1017) 2) false ⟨[(3,.p 2 0),(4,.p 3 0),(5,.p 4 0),(6,.p 5 0),(8,.i .i64),(9,.ws 62),(10,.ws 63),(11,.fn 211 [.p 4 0]),(12,.i .i64),(15,.i .i64),(16,.b),(17,.i .i64),(53,.ws 62),(54,.i .i64),(55,.i .i64),(94,.ws 63),(95,.i .i64),(96,.i .i64)],q15,64,2,2,2⟩ [] [⟨.ret,q130⟩,⟨.exit 4,q37⟩] (mA n) n
def KY (n:Nat):LP Tryz.prog Tryz.f155.ntmps:=ct (sD n) [altL (M9 n) (Ht n) rfl] 2 (sb (sb (sb (sb (acM [] [3,17,20,23,30] Tryz.f155) 0).body 1).body 1017) 2) false ⟨[(3,.p 2 0),(4,.p 3 0),(5,.p 4 0),(6,.p 5 0),(8,.i .i64),(9,.ws 0),(10,.ws 1),(11,.fn 211 [.p 4 0]),(12,.i .i64),(15,.i .i64),(16,.b),(17,.i .i64),(53,.ws 0),(54,.i .i64),(55,.i .i64),(94,.ws 1),(95,.i .i64),(96,.i .i64)],q18,62,2,2,2⟩ [] [⟨.ret,q131⟩,⟨.exit 4,q39⟩] (bQ n) n
def J2 (n:Nat):LP Tryz.prog Tryz.f155.ntmps:=fg (sD n) [altL (K7 n) (iO9 n) rfl,altL (KC n) (Hr n) rfl,altL (Rq n) (KY n) rfl] 1017 (sb (sb (sb (acM [] [3,17,20,23,30] Tryz.f155) 0).body 1).body 1017) false q37 [⟨.nrm,q37⟩,⟨.ret,q130⟩] (lu n)
def Hj (n:Nat):LP Tryz.prog Tryz.f155.ntmps:=fg (sD n) [altL (K7 n) (iO9 n) rfl,altL (KC n) (Hr n) rfl,altL (Rq n) (KY n) rfl] 1017 (sb (sb (sb (acM [] [3,17,20,23,30] Tryz.f155) 0).body 1).body 1017) false q39 [⟨.nrm,q39⟩,⟨.ret,q131⟩] (iu n)
def QZ (n:Nat):LP Tryz.prog Tryz.f155.ntmps:=ct (sD n) [altL (J2 n) (Hj n) rfl] 1 (sb (sb (acM [] [3,17,20,23,30] Tryz.f155) 0).body 1) false q37 [] [⟨.ret,q130⟩,⟨.exit 2,⟨[(3,.p 2 0),(4,.p 3 0),(5,.p 4 0),(6,.p 5 0),(8,.i .i64),(9,.ws 62),(10,.ws 63),(11,.fn 211 [.p 4 0]),(12,.i .i64)],q15,64,2,2,2⟩⟩] (l6 n) n
def Lc (n:Nat):LP Tryz.prog Tryz.f155.ntmps:=ct (sD n) [altL (J2 n) (Hj n) rfl] 1 (sb (sb (acM [] [3,17,20,23,30] Tryz.f155) 0).body 1) false q39 [] [⟨.ret,q131⟩,⟨.exit 2,⟨[(3,.p 2 0),(4,.p 3 0),(5,.p 4 0),(6,.p 5 0),(8,.i .i64),(9,.ws 0),(10,.ws 1),(11,.fn 211 [.p 4 0]),(12,.i .i64)],q18,62,2,2,2⟩⟩] (ck n) n
def UX (n:Nat):LP Tryz.prog Tryz.f155.ntmps:=ct (sD n) [altL (QZ n) (Lc n) rfl] 0 (sb (acM [] [3,17,20,23,30] Tryz.f155) 0) false ⟨[(3,.p 2 0),(4,.p 3 0),(5,.p 4 0),(6,.p 5 0),(8,.i .i64),(9,.ws 62),(10,.ws 63),(11,.fn 211 [.p 4 0]),(12,.i .i64),(13,.b)],q15,64,2,2,2⟩ [] [⟨.ret,q130⟩,⟨.exit 0,⟨[(6,.p 5 0)],q49,64,2,2,2⟩⟩] (me n) n
def UI (n:Nat):LP Tryz.prog Tryz.f155.ntmps:=ct (sD n) [altL (QZ n) (Lc n) rfl] 0 (sb (acM [] [3,17,20,23,30] Tryz.f155) 0) false ⟨[(3,.p 2 0),(4,.p 3 0),(5,.p 4 0),(6,.p 5 0),(8,.i .i64),(9,.ws 0),(10,.ws 1),(11,.fn 211 [.p 4 0]),(12,.i .i64),(13,.b)],q18,62,2,2,2⟩ [] [⟨.ret,q131⟩,⟨.exit 0,⟨[(6,.p 5 0)],q49,62,2,2,2⟩⟩] (de n) n
def c155 (n:Nat):FF Tryz.prog 155 [.ag q38,.ag [.i .i64,.i .i64,.i .i64],.b] q116 2 2 [⟨.tp [.ag [.i .i64,.i .i64,.i .i64],.b],[],[],false⟩]:=funC Tryz.func155 Tryz.call155 (sD n) [Wv n,altL (UX n) (UI n) rfl] [] [3,17,20,23,30] [0,1] (iZ n)
def c119 (n:Nat):PF Tryz.prog 119 q89 (.i .i64):=aJ Tryz.func119 Tryz.call119 [(c136 n).e,(c154 n).e,(c155 n).e] [] [] [] (bD n)
def c112 (n:Nat):FF Tryz.prog 112 [.p 0 0] q91 0 1 [⟨.it 129 (.ag [.i .i64,.i .i64]),q56,[],true⟩,⟨.tp [.ag q19,.i .i64],q56,[],false⟩]:=funC Tryz.func112 Tryz.call112 [(c144 n).e,(c119 n).e,(c110 n).e] [] [] [] [0] (iG n)
def c75E (n:Nat):List (FE Tryz.prog):=[(c73 n).e,(c107 n).e,(c111 n).e,(c110 n).e]
def YB (n:Nat):LP Tryz.prog Tryz.f75.ntmps:=ct (c75E n) [] 0 (sb (acM [] [] Tryz.f75) 0) false ⟨[(0,.p 0 0),(1,.s),(4,.i .i64),(5,.s)],q56,1,1,0,1⟩ [] [⟨.exit 0,⟨[(0,.p 0 0),(4,.i .i64)],q56,1,1,0,1⟩⟩] (dX n) n
def c75 (n:Nat):FF Tryz.prog 75 [.p 0 0,.s] q91 0 1 [⟨.tp [],q56,[],false⟩,⟨.it 129 (.ag [.i .i64,.i .i64]),q56,[],true⟩]:=funC Tryz.func75 Tryz.call75 (c75E n) [YB n] [] [] [0] (bZ n)
def c114 (n:Nat):FF Tryz.prog 114 [.ws 0] q83 1 1 [⟨.rs 21 0 0 .q (some .q),[],[],false⟩]:=funC Tryz.func114 Tryz.call114 [] [] [] [] [0] (bM n)
def c118 (n:Nat):FF Tryz.prog 118 [.ag q29] q83 1 1 [⟨.b,[],[],false⟩]:=funC Tryz.func118 Tryz.call118 [] [] [] [] [0] (oM n)
def c57 (n:Nat):PF Tryz.prog 57 q89 (.b):=aJ Tryz.func57 Tryz.call57 [(c97 n).e] [] [] [] (dV n)
def c153 (n:Nat):PF Tryz.prog 153 q89 (.b):=aJ Tryz.func153 Tryz.call153 [(c57 n).e] [] [] [] (mu n)
def c117 (n:Nat):PF Tryz.prog 117 [.ag q45] (.i .i64):=aJ Tryz.func117 Tryz.call117 [(c119 n).e,(c153 n).e] [] [] [] (gZ n)
def c194 (n:Nat):FF Tryz.prog 194 [] [] 0 0 [⟨.mp 0,[(0,.mp .u8 [(0,238),(1,239),(2,243),(3,246)])],[0],false⟩]:=funC Tryz.func194 Tryz.call194 [] [] [] [] [] (jd n)
def c195 (n:Nat):PF Tryz.prog 195 q89 (.i .u8):=aJ Tryz.func195 Tryz.call195 [(c55 n).e] [] [] [] (bp n)
def c238 (n:Nat):FF Tryz.prog 238 [.i .i64,.ws 0] q99 1 1 [⟨.ag q67,[],[],false⟩]:=funC Tryz.func238 Tryz.call238 [(c227 n).e] [] [] [] [0] (gq n)
def c241 (n:Nat):PF Tryz.prog 241 [.i .i64] (.tp [.i .i64,.i .i64]):=aJ Tryz.func241 Tryz.call241 [(c279 n).e,(c280 n).e] [] [] [] (um n)
def c281 (n:Nat):PF Tryz.prog 281 [.i .i64] (.ag [.i .i8,.i .i64]):=aJ Tryz.func281 Tryz.call281 [] [] [] [] (Gi n)
def c242 (n:Nat):PF Tryz.prog 242 [.i .i64,.i .i64] (.ag q67):=aJ Tryz.func242 Tryz.call242 [(c281 n).e] [] [] [] (rQ n)
def c239 (n:Nat):FF Tryz.prog 239 [.i .i64,.ws 0] q99 1 1 [⟨.ag q67,[],[],false⟩]:=funC Tryz.func239 Tryz.call239 [(c240 n).e,(c241 n).e,(c242 n).e] [] [] [] [0] (gA n)
def c243 (n:Nat):FF Tryz.prog 243 [.i .i64,.ws 0] q99 1 1 [⟨.ag q67,[],[],false⟩]:=funC Tryz.func243 Tryz.call243 [(c244 n).e,(c245 n).e,(c242 n).e] [] [] [] [0] (gx n)
def c284 (n:Nat):PF Tryz.prog 284 [.ag [.i .i64,.i .i64,.i .i64]] (.i .i64):=aJ Tryz.func284 Tryz.call284 [(c262 n).e] [] [] [] (rC n)
def c247 (n:Nat):PF Tryz.prog 247 [.ag [.i .i64,.i .i64,.i .i64]] (.tp [.i .i64,.i .i64]):=aJ Tryz.func247 Tryz.call247 [(c284 n).e,(c244 n).e] [] [] [] (rW n)
def c246 (n:Nat):FF Tryz.prog 246 [.i .i64,.ws 0] q99 1 1 [⟨.ag q67,[],[],false⟩]:=funC Tryz.func246 Tryz.call246 [(c247 n).e,(c242 n).e] [] [] [] [0] (gn n)
def c146 (n:Nat):PF Tryz.prog 146 q89 (.tp [.ag q67,.i .i64]):=aJ Tryz.func146 Tryz.call146 [(c119 n).e,(c153 n).e,(c193 n).e,(c95 n),(c194 n).e,(c195 n).e,(c238 n).e,(c239 n).e,(c243 n).e,(c246 n).e] [] [] [] (gB n)
def c248 (n:Nat):PF Tryz.prog 248 [.i .i8] (.b):=aJ Tryz.func248 Tryz.call248 [] [] [] [] (oJ n)
def c197 (n:Nat):PF Tryz.prog 197 [.i .i8,.i .i8] (.i .i64):=aJ Tryz.func197 Tryz.call197 [(c248 n).e] [] [] [] (mH n)
def c249 (n:Nat):PF Tryz.prog 249 [.i .i64] (.b):=aJ Tryz.func249 Tryz.call249 [] [] [] [] (kN n)
def c198 (n:Nat):PF Tryz.prog 198 [.i .i64,.i .i64] (.i .i64):=aJ Tryz.func198 Tryz.call198 [(c249 n).e] [] [] [] (jA n)
def Xq (n:Nat):LP Tryz.prog Tryz.f196.ntmps:=ct [] [] 0 (sb (acM [] [] Tryz.f196) 0) false ⟨[(3,.i .i64),(6,.ws 0),(7,.i .i64),(8,.i .i64)],q82,1,1,1,1⟩ [] [⟨.ret,⟨[(2,.i .i64)],[],1,1,1,1⟩⟩,⟨.exit 0,⟨[(3,.i .i64)],[],1,1,1,1⟩⟩] (uH n) n
def c196 (n:Nat):FF Tryz.prog 196 [.ws 0] q99 1 1 [⟨.i .i64,[],[],false⟩]:=funC Tryz.func196 Tryz.call196 [] [Xq n] [] [] [0] (oZ n)
def c147 (n:Nat):PF Tryz.prog 147 [.ag [.i .i8,.i .i64],.ag [.i .i8,.i .i64]] (.i .i64):=aJ Tryz.func147 Tryz.call147 [(c197 n).e,(c198 n).e,(c196 n).e] [] [] [] (kr n)
def c115 (n:Nat):PF Tryz.prog 115 [.ag q45,.ag q45] (.i .i64):=aJ Tryz.func115 Tryz.call115 [(c117 n).e,(c146 n).e,(c147 n).e] [] [0] [] (ip n)
def c214 (n:Nat):FF Tryz.prog 214 [.p 0 0] [.cells q20] 1 1 [⟨.b,[],[],false⟩]:=funC Tryz.func214 Tryz.call214 [] [] [] [] [0] (rn n)
def c218 (n:Nat):PF Tryz.prog 218 [.ag q31] (.b):=aJ Tryz.func218 Tryz.call218 [(c57 n).e] [] [] [] (n6 n)
def c219 (n:Nat):PF Tryz.prog 219 [.ag q31] (.b):=aJ Tryz.func219 Tryz.call219 [(c119 n).e,(c218 n).e,(c195 n).e] [] [] [] (lK n)
def c216 (n:Nat):PF Tryz.prog 216 [.ag q31,.ag q31] (.b):=aJ Tryz.func216 Tryz.call216 [(c219 n).e,(c195 n).e,(c146 n).e,(c147 n).e] [] [] [] (nr n)
def c215 (n:Nat):FF Tryz.prog 215 [.p 0 0] [.cells q20] 1 1 [⟨.b,[],[],false⟩]:=funC Tryz.func215 Tryz.call215 [(c216 n).e] [] [] [] [0] (qU n)
def c217 (n:Nat):FF Tryz.prog 217 q118 [.cells [.i .u8],.cells q20] 2 2 [⟨.b,[],[],false⟩]:=funC Tryz.func217 Tryz.call217 [(c218 n).e] [] [] [] [0,1] (rq n)
def c156 (n:Nat):FF Tryz.prog 156 [.sl 0 0 3 (some (.k 3))] [.cells [.i .i64,.fn 214 [.p 1 0],.i .i64,.fn 215 [.p 1 0],.i .i64,.fn 217 [.p 2 0,.p 1 0]],.cells q20,.cells [.i .u8]] 3 3 [⟨.i .i64,[],[],false⟩]:=funC Tryz.func156 Tryz.call156 [(c214 n).e,(c215 n).e,(c217 n).e] [] [0] [] [0,1,2] (eH n)
def c157 (n:Nat):PF Tryz.prog 157 [.ag q20,.i .u8] (.i .i64):=aJ Tryz.func157 Tryz.call157 [(c119 n).e,(c156 n).e] [] [] [] (fY n)
def c158 (n:Nat):FF Tryz.prog 158 q118 [.cells q20,.cells q59,.rows q11] 3 3 [⟨.b,[],[],false⟩]:=funC Tryz.func158 Tryz.call158 [(c157 n).e] [] [] [] [0,1,2] (qN n)
def c160 (n:Nat):PF Tryz.prog 160 [.ag q20] (.b):=aJ Tryz.func160 Tryz.call160 [(c219 n).e] [] [] [] (oa n)
def c159 (n:Nat):FF Tryz.prog 159 [.p 0 0,.p 1 0,.p 2 0] [.cells [.i .u8,.bd,.b,.s,.i .i64,.i .i64,.s,.s,.i .u8,.i .u8,.i .u8,.i .u8,.bd,.b,.s,.i .i64,.i .i64,.s,.s,.i .u8,.i .u8,.i .u8,.i .u8,.bd,.b,.s,.i .i64,.i .i64,.s,.s,.i .u8,.i .u8,.i .u8,.rs 21 3 0 .q (some .q),.b,.b],.cells [.i .i64],.cells q20,.rows q11] 4 4 [⟨.b,[],[],false⟩]:=funC Tryz.func159 Tryz.call159 [(c160 n).e] [] [] [] [0,1,2,3] (rF n)
def c161 (n:Nat):FF Tryz.prog 161 [.p 0 0,.p 1 0,.p 2 0,.p 3 0] [.cells [.i .u8,.bd,.b,.s,.i .i64,.i .i64,.s,.s,.i .u8,.i .u8,.i .u8,.i .u8,.bd,.b,.s,.i .i64,.i .i64,.s,.s,.i .u8,.i .u8,.i .u8,.i .u8,.bd,.b,.s,.i .i64,.i .i64,.s,.s,.i .u8,.i .u8,.i .u8,.rs 21 4 0 .q (some .q),.b,.b],.cells [.i .i64],.cells [.i .i64],.cells q20,.rows q11] 5 5 [⟨.b,[],[],false⟩]:=funC Tryz.func161 Tryz.call161 [(c160 n).e] [] [] [] [0,1,2,3,4] (rB n)
def c162 (n:Nat):FF Tryz.prog 162 q118 [.cells q59,.cells [.i .i64],.rows q11] 3 3 [⟨.b,[],[],false⟩]:=funC Tryz.func162 Tryz.call162 [] [] [] [] [0,1,2] (rl n)
def Xm (n:Nat):FF Tryz.prog 156 [.sl 0 0 4 (some (.k 4))] [.cells q73,.cells q20,.cells [.i .u8,.bd,.b,.s,.i .i64,.i .i64,.s,.s,.i .u8,.i .u8,.i .u8,.i .u8,.bd,.b,.s,.i .i64,.i .i64,.s,.s,.i .u8,.i .u8,.i .u8,.i .u8,.bd,.b,.s,.i .i64,.i .i64,.s,.s,.i .u8,.i .u8,.i .u8,.rs 21 5 0 .q (some .q),.b,.b],.cells [.i .i64],.cells [.i .i64],.rows q11] 6 6 [⟨.i .i64,[],[],false⟩]:=funC Tryz.func156 Tryz.call156 [(c158 n).e,(c159 n).e,(c161 n).e,(c162 n).e] [] [0] [] [0,1,2,3,4,5] (mF n)
def VV (n:Nat):List (FE Tryz.prog):=[(c157 n).e,(Xm n).e]
def Xt (n:Nat):LP Tryz.prog Tryz.f120.ntmps:=ct (VV n) [] 0 (sb (acM [] [] Tryz.f120) 0) true ⟨[(1,.p 1 0),(4,.p 2 0),(13,.rs 21 0 0 .q (some .q)),(14,.i .i64),(15,.i .i64)],[(0,.rows q11),(1,.cells q29),(2,.cells [.i .i64])],3,1,1,1⟩ [] q74 (jY n) n
def c120 (n:Nat):FF Tryz.prog 120 [.ag q29] q83 1 1 [⟨.tp [.i .i64,.i .i64],[],[],false⟩]:=funC Tryz.func120 Tryz.call120 (VV n) [Xt n] [] [] [0] (np n)
def c79 (n:Nat):FF Tryz.prog 79 [.ag q29] q83 1 1 [⟨.tp [.i .i64,.i .i64],[],[],false⟩]:=funC Tryz.func79 Tryz.call79 [(c118 n).e,(c119 n).e,(c115 n).e,(c120 n).e] [] [] [] [0] (iq n)
def c71E (n:Nat):List (FE Tryz.prog):=[(c108 n).e,(c109 n).e,(c73 n).e,(c111 n).e,(c110 n).e,(c112 n).e,(c113 n).e,(c75 n).e,(c114 n).e,(c79 n).e]
def YS (n:Nat):LP Tryz.prog Tryz.f71.ntmps:=fg (c71E n) [] 1003 (sb (acM [] [3,16,17] Tryz.f71) 1003) true ⟨[(0,.p 0 0),(2,.p 1 0),(3,.p 2 0),(15,.b)],[(0,.cells q30),(1,.cells q14),(2,.cells [.ik .u8 3,.bk false,.bk false,.sk [],.ik .i64 0,.ik .i64 0,.sk [],.sk [],.ik .u8 0,.ik .u8 0,.ik .u8 0,.ik .u8 0,.bk false,.bk false,.sk [],.ik .i64 0,.ik .i64 0,.sk [],.sk [],.ik .u8 0,.ik .u8 0,.ik .u8 0,.ik .u8 0,.bk false,.bk false,.sk [],.ik .i64 0,.ik .i64 0,.sk [],.sk [],.ik .u8 0,.ik .u8 0,.ik .u8 0,.ws 4,.bk false,.bk false]),(3,.rows q11),(4,.rows q11)],5,1,0,1⟩ [⟨.nrm,⟨[(0,.p 0 0),(2,.p 1 0),(3,.p 2 0)],[(0,.cells q30),(1,.cells q14),(2,.cells [.i .u8,.bk false,.bk false,.sk [],.ik .i64 0,.ik .i64 0,.sk [],.sk [],.ik .u8 0,.ik .u8 0,.ik .u8 0,.ik .u8 0,.bk false,.bk false,.sk [],.ik .i64 0,.ik .i64 0,.sk [],.sk [],.ik .u8 0,.ik .u8 0,.ik .u8 0,.ik .u8 0,.bk false,.bk false,.sk [],.ik .i64 0,.ik .i64 0,.sk [],.sk [],.ik .u8 0,.ik .u8 0,.ik .u8 0,.ws 4,.bk false,.bk false]),(3,.rows q11),(4,.rows q11)],5,1,0,1⟩⟩] (ng n)
def Ve (n:Nat):LP Tryz.prog Tryz.f71.ntmps:=fg (c71E n) [] 1016 (sb (sb (acM [] [3,16,17] Tryz.f71) 0).body 1016) true ⟨q105,q36,7,1,0,1⟩ [⟨.nrm,q93⟩] (lX n)
def VZ (n:Nat):LP Tryz.prog Tryz.f71.ntmps:=fg (c71E n) [] 1017 (sb (sb (acM [] [3,16,17] Tryz.f71) 0).body 1017) true q93 [⟨.pan (.it 129 (.ag [.i .i64,.i .i64])),⟨[],q56,1,1,0,1⟩⟩,⟨.nrm,⟨q105,[(0,.cells q30),(1,.cells q21),(2,.cells q26),(3,.rows [.i .i64]),(4,.cells q20),(5,.rows q11),(6,.rows q11)],7,1,0,1⟩⟩] (lV n)
def X5 (n:Nat):LP Tryz.prog Tryz.f71.ntmps:=ct (c71E n) [Ve n,VZ n] 0 (sb (acM [] [3,16,17] Tryz.f71) 0) true ⟨q126,[(0,.cells q30),(1,.cells q22),(2,.cells q47),(3,.rows [.i .i64]),(4,.rows q11),(5,.rows q11)],6,1,0,1⟩ [.nilT 6 1000 [.i .i64]] [⟨.pan (.it 129 (.ag [.i .i64,.i .i64])),⟨[],q56,1,1,0,1⟩⟩,⟨.exit 0,⟨q126,[(0,.cells q30),(1,.cells q65),(2,.cells q42),(3,.rows [.i .i64]),(4,.rows q11),(5,.rows q11)],6,1,0,1⟩⟩] (fh n) n
def c71 (n:Nat):FF Tryz.prog 71 [.p 0 0] q91 0 1 [⟨.it 129 (.ag [.i .i64,.i .i64]),q56,[],true⟩,⟨.ag [.i .u8,.bd,.b,.s,.i .i64,.i .i64,.s,.s,.i .u8,.i .u8,.i .u8,.i .u8,.bd,.b,.s,.i .i64,.i .i64,.s,.s,.i .u8,.i .u8,.i .u8,.i .u8,.bd,.b,.s,.i .i64,.i .i64,.s,.s,.i .u8,.i .u8,.i .u8,.rs 21 1 0 .q (some .q),.b,.b],[(0,.cells q30),(1,.rows q11)],[1],false⟩]:=funC Tryz.func71 Tryz.call71 (c71E n) [YS n,X5 n] [] [3,16,17] [0] (nD n)
def c72 (n:Nat):FF Tryz.prog 72 [.p 2 0,.i .i64] [.cells q30,.rows q11,.cells q57] 2 3 [⟨.tp [],[(2,.cells q57)],[],false⟩]:=funC Tryz.func72 Tryz.call72 [] [] [] [] [2,0,1] (fR n)
def Wl (n:Nat):FF Tryz.prog 72 [.p 2 0,.i .i64] [.cells q30,.rows q11,.cells q60] 2 3 [⟨.tp [],[(2,.cells q60)],[],false⟩]:=funC Tryz.func72 Tryz.call72 [] [] [] [] [2,0,1] (cS n)
def MA (_n:Nat):Ent:=Ry 148
theorem Je (n:Nat):fW Tryz.prog (MA n):=Nu Tryz.call148 λs c w h1 h2 h3=>Tryz.strings_TrimRight_laid s c w h1 h2 h3
def c148 (n:Nat):FE Tryz.prog:=libF (Je n)
def VI (n:Nat):PF Tryz.prog 192 [.s,.sk [45]] (.b):=aJ Tryz.func192 Tryz.call192 [] [] [] [] (fm n)
def c203 (n:Nat):PF Tryz.prog 203 [.s,.sk [45]] (.s):=aJ Tryz.func203 Tryz.call203 [(VI n).e] [] [] [] (fX n)
def c149 (n:Nat):PF Tryz.prog 149 [.s,.sk [45]] (.s):=aJ Tryz.func149 Tryz.call149 [(c203 n).e] [] [] [] (jb n)
end
end Go.Sh
