/- Each function of the program computes its plain function: the certificates.
   Conditions: none. Printed by the bench tool gen.py. -/
import Derived.Test.YtpkdacjndoiabaaGreatDoorYText
set_option linter.unusedVariables false
set_option linter.unusedSimpArgs false
set_option maxRecDepth 100000
set_option maxHeartbeats 4000000
namespace Go.Sh
open Go.Abs Go.Proofs
noncomputable section
abbrev q139:List (Nat×PB):=[(0,.rows q12),(1,.cells q14),(2,.rows [.s])]
abbrev q68:List (Nat×PB):=[(0,.ints .u8 3),(1,.ints .u8 3),(2,.ints .u8 3),(3,.ints .u8 3),(4,.ints .u8 3)]
abbrev q56:List PV:=[.i .u8,.b,.i .u16,.i .u8,.i .u8,.i .u8,.i .u8,.i .u8,.i .u8,.i .u8]
abbrev q13:List Lf:=[.i .u8,.bo,.i .u16,.i .u8,.i .u8,.i .u8,.i .u8,.i .u8,.i .u8,.i .u8,.i .u8,.i .u8,.bo,.i .u16,.i .u8,.i .u8,.i .u8,.i .u8,.i .u8,.i .u8,.i .u8]
abbrev q37:List PV:=[.i .u8,.ws 0,.i .u8,.i .u8,.i .u8]
abbrev q59:List (Nat×PB):=[(0,.rows q13),(1,.cells q37),(2,.cells q19),(3,.rows q12)]
abbrev q61:List (Nat×PB):=[(0,.rows q13),(1,.cells q37),(2,.cells q15),(3,.rows q13),(4,.rows q12)]
abbrev q44:PSt:=⟨[(1,.p 1 0),(2,.p 2 0),(3,.rs 21 3 0 .q none),(23,.i .u8),(24,.b)],q61,5,1,1,1⟩
abbrev q46:PSt:=⟨[(1,.p 1 0),(2,.p 2 0),(3,.rs 21 0 0 .q none),(23,.i .u8),(24,.b)],q59,4,1,1,1⟩
abbrev q36:List PV:=[.i .u8,.bd,.b,.s,.i .i64,.i .i64,.s,.s,.i .u8,.i .u8,.i .u8]
abbrev q109:List (Nat×PB):=[(1,.cells q34),(2,.rows q13),(3,.cells q36),(4,.cells q36),(5,.rows q12)]
abbrev q52:List PX:=[⟨.nrm,⟨[(2,.p 1 0),(4,.p 2 0),(5,.p 3 0)],[(1,.cells q15),(2,.cells q36),(3,.cells q36),(4,.rows q12)],5,1,1,1⟩⟩]
abbrev q110:List (Nat×PB):=[(0,.rows q13),(1,.cells q15),(2,.cells q36),(3,.cells q36),(4,.rows q12)]
abbrev q134:List (Nat×PV):=[(2,.p 1 0),(3,.rs 21 2 0 .q none),(6,.p 3 0)]
abbrev q47:List (Nat×PB):=[(1,.cells q15),(2,.rows q13),(3,.cells [.i .u8,.bk false,.bk false,.sk [],.ik .i64 0,.ik .i64 0,.sk [],.sk [],.ik .u8 0,.ik .u8 0,.ik .u8 0,.ik .u8 0,.bk false,.bk false,.sk [],.ik .i64 0,.ik .i64 0,.sk [],.sk [],.ik .u8 0,.ik .u8 0,.ik .u8 0,.ik .u8 0,.bk false,.bk false,.sk [],.ik .i64 0,.ik .i64 0,.sk [],.sk [],.ik .u8 0,.ik .u8 0,.ik .u8 0,.ws 5,.b,.b]),(4,.rows q12),(5,.rows q12)]
abbrev q135:List (Nat×PV):=[(2,.p 1 0),(3,.rs 21 0 0 .q none),(6,.p 2 0)]
abbrev q48:List (Nat×PB):=[(0,.rows q13),(1,.cells q19),(2,.cells [.i .u8,.bk false,.bk false,.sk [],.ik .i64 0,.ik .i64 0,.sk [],.sk [],.ik .u8 0,.ik .u8 0,.ik .u8 0,.ik .u8 0,.bk false,.bk false,.sk [],.ik .i64 0,.ik .i64 0,.sk [],.sk [],.ik .u8 0,.ik .u8 0,.ik .u8 0,.ik .u8 0,.bk false,.bk false,.sk [],.ik .i64 0,.ik .i64 0,.sk [],.sk [],.ik .u8 0,.ik .u8 0,.ik .u8 0,.ws 4,.b,.b]),(3,.rows q12),(4,.rows q12)]
abbrev q62:List (Nat×PB):=[(1,.cells q16),(2,.rows q13),(3,.cells q23),(4,.rows q12),(5,.rows q12)]
abbrev q63:List (Nat×PB):=[(0,.rows q13),(1,.cells q18),(2,.cells q16),(3,.rows q12),(4,.rows q12)]
abbrev q55:List (Nat×PB):=[(1,.cells q18),(2,.cells q16),(3,.rows q12),(4,.rows q12)]
abbrev q102:PSt:=⟨[(2,.p 1 0),(6,.p 2 0),(8,.i .i64)],q55,5,1,1,1⟩
abbrev q136:PSt:=⟨[(2,.p 1 0),(6,.p 2 0),(139,.b)],q55,5,1,1,1⟩
abbrev q79:List (Nat×PB):=[(0,.rows q13),(1,.cells q37),(2,.cells q21)]
abbrev q84:List (Nat×PB):=[(1,.cells q27),(2,.rows q12)]
abbrev q130:PSt:=⟨[(8,.p 1 0),(9,.i .i64),(100,.b)],q84,3,1,1,1⟩
noncomputable def Lt (n:Nat):Ent:=HK 76 (bW n)
theorem Je (n:Nat):fC Tryz.prog (Lt n):=F8 Tryz.call76 (Hk n) (Lx n)
def c76 (n:Nat):FE Tryz.prog:=libF (Je n)
def c77 (n:Nat):PF Tryz.prog 77 [.i .u8] (.tp q38):=aI Tryz.func77 Tryz.call77 [(c124 n).e,(c125 n).e] [] [] [] (pJ n)
noncomputable def J3 (_n:Nat):Ent:=OS 28
theorem Gy (n:Nat):fC Tryz.prog (J3 n):=Kp Tryz.call28 Tryz.strings_Join_none Tryz.strings_Join
def c28 (n:Nat):FE Tryz.prog:=libF (Gy n)
def c37E (n:Nat):List (FE Tryz.prog):=[(c73 n).e,(c74 n).e,(c75 n).e,(c76 n),(c77 n).e,(c28 n)]
def RR (n:Nat):LP Tryz.prog Tryz.f37.ntmps:=co (c37E n) [] 0 (sb (acM [] [] Tryz.f37) 0) false ⟨[(6,.p 1 0),(7,.p 2 0),(11,.ws 3),(48,.rs 1 4 0 .q none),(49,.i .i64),(50,.i .i64)],[(1,.ints .u8 3),(2,.ints .u8 3),(3,.rows [.s]),(4,.rows [.s])],5,0,0,0⟩ [] [⟨.exit 0,⟨[(11,.ws 3)],[(3,.rows [.s])],5,0,0,0⟩⟩] (aL n) n
def c37 (n:Nat):PF Tryz.prog 37 q87 (.tp q38):=aI Tryz.func37 Tryz.call37 (c37E n) [RR n] [] [] (ec n)
def c15 (n:Nat):PF Tryz.prog 15 [.ag q21] (.tp q38):=aI Tryz.func15 Tryz.call15 [(c36 n).e,(c37 n).e] [] [] [] (gz n)
def c11E (n:Nat):List (FE Tryz.prog):=[(c12 n).e,(c15 n).e,(c27 n).e,(c28 n)]
def RX (n:Nat):LP Tryz.prog Tryz.f11.ntmps:=co (c11E n) [] 0 (sb (acM [] [] Tryz.f11) 0) true ⟨[(1,.p 1 0),(5,.ws 2),(28,.ws 0),(29,.i .i64),(30,.i .i64)],q139,3,1,1,1⟩ [] [⟨.exit 0,⟨[(1,.p 1 0),(5,.ws 2)],q139,3,1,1,1⟩⟩] (dr n) n
def c11 (n:Nat):FF Tryz.prog 11 [.ag q14] q105 1 1 [⟨.tp q38,[],[],false⟩]:=funC Tryz.func11 Tryz.call11 (c11E n) [RX n] [] [] [0] (pH n)
def S7 (n:Nat):LP Tryz.prog Tryz.f78.ntmps:=co [] [] 0 (sb (acM [] [] Tryz.f78) 0) false ⟨[(1,.i .i64),(2,.p 0 0),(4,.p 1 0),(5,.p 2 0),(6,.p 3 0),(7,.p 4 0),(8,.b),(9,.i .i64)],q68,5,0,0,0⟩ [] [⟨.exit 0,⟨[(1,.i .i64),(2,.p 0 0),(4,.p 1 0),(5,.p 2 0),(6,.p 3 0),(7,.p 4 0),(8,.b)],q68,5,0,0,0⟩⟩] (lZ n) n
def Sl (n:Nat):LP Tryz.prog Tryz.f78.ntmps:=co [] [] 1 (sb (acM [] [] Tryz.f78) 1) false ⟨[(1,.i .i64),(2,.p 0 0),(4,.p 1 0),(5,.p 2 0),(6,.p 3 0),(7,.p 4 0),(10,.i .i64)],q68,5,0,0,0⟩ [] [⟨.exit 2,⟨[(4,.p 1 0),(5,.p 2 0),(6,.p 3 0),(7,.p 4 0)],[(1,.ints .u8 3),(2,.ints .u8 3),(3,.ints .u8 3),(4,.ints .u8 3)],5,0,0,0⟩⟩] (mf n) n
def c78 (n:Nat):PF Tryz.prog 78 q119 (.tp [.ai .u8 3,.ai .u8 3]):=aI Tryz.func78 Tryz.call78 [] [S7 n,Sl n] [] [] (iJ n)
def c126 (n:Nat):PF Tryz.prog 126 [.i .i64] (.s):=aI Tryz.func126 Tryz.call126 [] [] [] [] (aB n)
def c80 (n:Nat):PF Tryz.prog 80 q128 (.s):=aI Tryz.func80 Tryz.call80 [(c126 n).e] [] [] [] (jm n)
def c38 (n:Nat):PF Tryz.prog 38 q87 (.s):=aI Tryz.func38 Tryz.call38 [(c41 n).e,(c78 n).e,(c79 n).e,(c80 n).e] [] [] [] (dF n)
def c16 (n:Nat):PF Tryz.prog 16 [.ag q21] (.s):=aI Tryz.func16 Tryz.call16 [(c38 n).e] [] [] [] (dD n)
def c109 (n:Nat):PF Tryz.prog 109 [.i .u16] (.s):=aI Tryz.func109 Tryz.call109 [] [] [] [] (js n)
def c61E (n:Nat):List (FE Tryz.prog):=[(c109 n).e,(c110 n).e]
def RD (n:Nat):LP Tryz.prog Tryz.f61.ntmps:=co (c61E n) [] 0 (sb (acM [] [] Tryz.f61) 0) false ⟨[(2,.p 1 0),(3,.p 50 0),(4,.i .i64),(5,.i .i64),(6,.s),(7,.i .i64)],[(1,.cells q43),(50,.cells q43)],162,0,0,0⟩ [] [⟨.exit 1,⟨[(2,.p 1 0),(3,.p 50 0),(6,.s)],[(1,.cells q43),(50,.cells q43)],162,0,0,0⟩⟩] (eO n) n
def c61 (n:Nat):PF Tryz.prog 61 [.ag [.i .u8,.b,.i .u16,.i .u8,.i .u8]] (.ag q43):=aI Tryz.func61 Tryz.call61 (c61E n) [RD n] [] [] (gR n)
def c62 (n:Nat):PF Tryz.prog 62 [.ag q56] (.s):=aI Tryz.func62 Tryz.call62 [(c111 n).e] [] [] [] (eP n)
def c64 (n:Nat):PF Tryz.prog 64 [.ag q56,.s] (.s):=aI Tryz.func64 Tryz.call64 [(c111 n).e] [] [] [] (gm n)
def c30 (n:Nat):PF Tryz.prog 30 [.ag q56] (.ag q26):=aI Tryz.func30 Tryz.call30 [(c61 n).e,(c62 n).e,(c63 n).e,(c64 n).e,(c41 n).e] [] [0] [] (aC n)
def c33 (n:Nat):PF Tryz.prog 33 [.ag q56] (.ag q26):=aI Tryz.func33 Tryz.call33 [(c30 n).e] [] [] [] (bi n)
def c31 (n:Nat):PF Tryz.prog 31 [.ag [.i .u8,.i .u8,.b,.i .u16,.i .u8,.i .u8,.i .u8,.i .u8,.i .u8,.i .u8,.i .u8]] (.ag q50):=aI Tryz.func31 Tryz.call31 [(c33 n).e] [] [] [] (bJ n)
def c35 (n:Nat):PF Tryz.prog 35 [.ag q56] (.ag q49):=aI Tryz.func35 Tryz.call35 [(c33 n).e] [] [] [] (bI n)
def c66 (n:Nat):PF Tryz.prog 66 [.ag q49,.i .i64] (.ag q49):=aI Tryz.func66 Tryz.call66 [] [] [] [] (ir n)
def c34 (n:Nat):PF Tryz.prog 34 [.ag [.i .u8,.b,.i .u16,.i .u8,.i .u8,.i .u8,.i .u8,.i .u8,.i .u8,.i .u8,.i .u8,.i .u8,.b,.i .u16,.i .u8,.i .u8,.i .u8,.i .u8,.i .u8,.i .u8,.i .u8],.b] (.ag q21):=aI Tryz.func34 Tryz.call34 [(c35 n).e,(c41 n).e,(c66 n).e,(c42 n).e,(c33 n).e,(c30 n).e] [] [] [] (fG n)
def c14E (n:Nat):List (FE Tryz.prog):=[(c30 n).e,(c31 n).e,(c32 n).e,(c33 n).e,(c34 n).e,(c35 n).e]
def SL (n:Nat):LP Tryz.prog Tryz.f14.ntmps:=bR (c14E n) [] 1003 (sb (acM [] [3,9,11,16,22,24,30,41,44,46,47] Tryz.f14) 1003) true ⟨[(1,.p 1 0),(2,.p 2 0),(3,.ws 0),(13,.b)],q59,4,1,1,1⟩ [⟨.nrm,⟨[(1,.p 1 0),(2,.p 2 0),(3,.ws 3)],q61,5,1,1,1⟩⟩,⟨.nrm,⟨[(1,.p 1 0),(2,.p 2 0),(3,.ws 0)],q59,4,1,1,1⟩⟩] (jl n)
def ME (n:Nat):LP Tryz.prog Tryz.f14.ntmps:=bR (c14E n) [] 1011 (sb (sb (acM [] [3,9,11,16,22,24,30,41,44,46,47] Tryz.f14) 1009) 1011) true q44 [⟨.nrm,q44⟩] (iZ n)
def Hj (n:Nat):LP Tryz.prog Tryz.f14.ntmps:=bR (c14E n) [] 1011 (sb (sb (acM [] [3,9,11,16,22,24,30,41,44,46,47] Tryz.f14) 1009) 1011) true q46 [⟨.nrm,q46⟩] (io n)
def Rw (n:Nat):LP Tryz.prog Tryz.f14.ntmps:=bR (c14E n) [altL (ME n) (Hj n) rfl] 1009 (sb (acM [] [3,9,11,16,22,24,30,41,44,46,47] Tryz.f14) 1009) true q44 [⟨.nrm,q44⟩] (gI n)
def Pz (n:Nat):LP Tryz.prog Tryz.f14.ntmps:=bR (c14E n) [altL (ME n) (Hj n) rfl] 1009 (sb (acM [] [3,9,11,16,22,24,30,41,44,46,47] Tryz.f14) 1009) true q46 [⟨.nrm,q46⟩] (fU n)
def OZ (n:Nat):LP Tryz.prog Tryz.f14.ntmps:=bR (c14E n) [] 1016 (sb (acM [] [3,9,11,16,22,24,30,41,44,46,47] Tryz.f14) 1016) true ⟨[(1,.p 1 0),(2,.p 2 0),(3,.rs 21 3 0 .q none),(23,.i .u8),(34,.b)],q61,5,1,1,1⟩ [⟨.nrm,⟨[(1,.p 1 0),(2,.p 2 0),(3,.rs 21 3 0 .q none),(34,.b)],q61,5,1,1,1⟩⟩] (ga n)
def NS (n:Nat):LP Tryz.prog Tryz.f14.ntmps:=bR (c14E n) [] 1016 (sb (acM [] [3,9,11,16,22,24,30,41,44,46,47] Tryz.f14) 1016) true ⟨[(1,.p 1 0),(2,.p 2 0),(3,.rs 21 0 0 .q none),(23,.i .u8),(34,.b)],q59,4,1,1,1⟩ [⟨.nrm,⟨[(1,.p 1 0),(2,.p 2 0),(3,.rs 21 0 0 .q none),(34,.b)],q59,4,1,1,1⟩⟩] (fB n)
def LD (n:Nat):LP Tryz.prog Tryz.f14.ntmps:=bR (c14E n) [] 1024 (sb (sb (acM [] [3,9,11,16,22,24,30,41,44,46,47] Tryz.f14) 1022) 1024) true ⟨[(2,.p 1 0),(3,.rs 21 2 0 .q none),(4,.p 3 0),(5,.p 4 0),(61,.b)],q109,6,1,1,1⟩ q52 (iU n)
def GT (n:Nat):LP Tryz.prog Tryz.f14.ntmps:=bR (c14E n) [] 1024 (sb (sb (acM [] [3,9,11,16,22,24,30,41,44,46,47] Tryz.f14) 1022) 1024) true ⟨[(2,.p 1 0),(3,.rs 21 0 0 .q none),(4,.p 2 0),(5,.p 3 0),(61,.b)],q110,5,1,1,1⟩ q52 (ip n)
def PC (n:Nat):LP Tryz.prog Tryz.f14.ntmps:=bR (c14E n) [altL (LD n) (GT n) rfl] 1022 (sb (acM [] [3,9,11,16,22,24,30,41,44,46,47] Tryz.f14) 1022) true ⟨[(2,.p 1 0),(3,.rs 21 2 0 .q none),(4,.p 3 0),(5,.p 4 0),(58,.b)],q109,6,1,1,1⟩ q52 (fN n)
def OR (n:Nat):LP Tryz.prog Tryz.f14.ntmps:=bR (c14E n) [altL (LD n) (GT n) rfl] 1022 (sb (acM [] [3,9,11,16,22,24,30,41,44,46,47] Tryz.f14) 1022) true ⟨[(2,.p 1 0),(3,.rs 21 0 0 .q none),(4,.p 2 0),(5,.p 3 0),(58,.b)],q110,5,1,1,1⟩ q52 (fm n)
def O7 (n:Nat):LP Tryz.prog Tryz.f14.ntmps:=bR (c14E n) [] 1030 (sb (acM [] [3,9,11,16,22,24,30,41,44,46,47] Tryz.f14) 1030) true ⟨[(2,.p 1 0),(3,.rs 21 2 0 .q none),(6,.p 3 0),(86,.b)],[(1,.cells q15),(2,.rows q13),(3,.cells [.ik .u8 3,.bk false,.bk false,.sk [],.ik .i64 0,.ik .i64 0,.sk [],.sk [],.ik .u8 0,.ik .u8 0,.ik .u8 0,.ik .u8 0,.bk false,.bk false,.sk [],.ik .i64 0,.ik .i64 0,.sk [],.sk [],.ik .u8 0,.ik .u8 0,.ik .u8 0,.ik .u8 0,.bk false,.bk false,.sk [],.ik .i64 0,.ik .i64 0,.sk [],.sk [],.ik .u8 0,.ik .u8 0,.ik .u8 0,.ws 5,.b,.b]),(4,.rows q12),(5,.rows q12)],6,1,1,1⟩ [⟨.nrm,⟨q134,q47,6,1,1,1⟩⟩] (fW n)
def NK (n:Nat):LP Tryz.prog Tryz.f14.ntmps:=bR (c14E n) [] 1030 (sb (acM [] [3,9,11,16,22,24,30,41,44,46,47] Tryz.f14) 1030) true ⟨[(2,.p 1 0),(3,.rs 21 0 0 .q none),(6,.p 2 0),(86,.b)],[(0,.rows q13),(1,.cells q19),(2,.cells [.ik .u8 3,.bk false,.bk false,.sk [],.ik .i64 0,.ik .i64 0,.sk [],.sk [],.ik .u8 0,.ik .u8 0,.ik .u8 0,.ik .u8 0,.bk false,.bk false,.sk [],.ik .i64 0,.ik .i64 0,.sk [],.sk [],.ik .u8 0,.ik .u8 0,.ik .u8 0,.ik .u8 0,.bk false,.bk false,.sk [],.ik .i64 0,.ik .i64 0,.sk [],.sk [],.ik .u8 0,.ik .u8 0,.ik .u8 0,.ws 4,.b,.b]),(3,.rows q12),(4,.rows q12)],5,1,1,1⟩ [⟨.nrm,⟨q135,q48,5,1,1,1⟩⟩] (fw n)
def RZ (n:Nat):LP Tryz.prog Tryz.f14.ntmps:=co (c14E n) [] 0 (sb (acM [] [3,9,11,16,22,24,30,41,44,46,47] Tryz.f14) 0) true ⟨[(2,.p 1 0),(3,.rs 21 2 0 .q none),(6,.p 3 0),(7,.i .i64)],q47,6,1,1,1⟩ [] [⟨.exit 1,⟨q134,q62,6,1,1,1⟩⟩] (ch n) n
def Qx (n:Nat):LP Tryz.prog Tryz.f14.ntmps:=co (c14E n) [] 0 (sb (acM [] [3,9,11,16,22,24,30,41,44,46,47] Tryz.f14) 0) true ⟨[(2,.p 1 0),(3,.rs 21 0 0 .q none),(6,.p 2 0),(7,.i .i64)],q48,5,1,1,1⟩ [] [⟨.exit 1,⟨q135,q63,5,1,1,1⟩⟩] (bX n) n
def P0 (n:Nat):LP Tryz.prog Tryz.f14.ntmps:=bR (c14E n) [] 1041 (sb (acM [] [3,9,11,16,22,24,30,41,44,46,47] Tryz.f14) 1041) true ⟨[(2,.p 1 0),(3,.rs 21 2 0 .q none),(6,.p 3 0),(8,.i .i64),(111,.b)],q62,6,1,1,1⟩ [⟨.nrm,⟨[(2,.p 1 0),(3,.rs 21 2 0 .q none),(6,.p 3 0),(8,.i .i64)],q62,6,1,1,1⟩⟩] (fY n)
def Nr (n:Nat):LP Tryz.prog Tryz.f14.ntmps:=bR (c14E n) [] 1041 (sb (acM [] [3,9,11,16,22,24,30,41,44,46,47] Tryz.f14) 1041) true ⟨[(2,.p 1 0),(3,.rs 21 0 0 .q none),(6,.p 2 0),(8,.i .i64),(111,.b)],q63,5,1,1,1⟩ [⟨.nrm,⟨[(2,.p 1 0),(3,.rs 21 0 0 .q none),(6,.p 2 0),(8,.i .i64)],q63,5,1,1,1⟩⟩] (fp n)
def Qo (n:Nat):LP Tryz.prog Tryz.f14.ntmps:=bR (c14E n) [] 1044 (sb (acM [] [3,9,11,16,22,24,30,41,44,46,47] Tryz.f14) 1044) true ⟨[(2,.p 1 0),(3,.rs 21 2 0 .q none),(6,.p 3 0),(8,.i .i64),(122,.b)],q62,6,1,1,1⟩ [⟨.nrm,q102⟩] (f6 n)
def NJ (n:Nat):LP Tryz.prog Tryz.f14.ntmps:=bR (c14E n) [] 1044 (sb (acM [] [3,9,11,16,22,24,30,41,44,46,47] Tryz.f14) 1044) true ⟨[(2,.p 1 0),(3,.rs 21 0 0 .q none),(6,.p 2 0),(8,.i .i64),(122,.b)],q63,5,1,1,1⟩ [⟨.nrm,q102⟩] (fq n)
def Pm (n:Nat):LP Tryz.prog Tryz.f14.ntmps:=bR (c14E n) [] 1046 (sb (acM [] [3,9,11,16,22,24,30,41,44,46,47] Tryz.f14) 1046) true q102 [⟨.nrm,q136⟩] (eg n)
def Rq (n:Nat):LP Tryz.prog Tryz.f14.ntmps:=bR (c14E n) [] 1047 (sb (acM [] [3,9,11,16,22,24,30,41,44,46,47] Tryz.f14) 1047) true q136 [⟨.nrm,⟨[(2,.p 1 0),(6,.p 2 0)],q55,5,1,1,1⟩⟩] (ei n)
def c14 (n:Nat):FF Tryz.prog 14 [.ag q37] [.rows q13] 1 1 [⟨.ag q33,[(1,.rows q12)],[1],false⟩]:=funC Tryz.func14 Tryz.call14 (c14E n) [SL n,altL (Rw n) (Pz n) rfl,altL (OZ n) (NS n) rfl,altL (PC n) (OR n) rfl,altL (O7 n) (NK n) rfl,altL (RZ n) (Qx n) rfl,altL (P0 n) (Nr n) rfl,altL (Qo n) (NJ n) rfl,Pm n,Rq n] [] [3,9,11,16,22,24,30,41,44,46,47] [0] (jE n)
def Md (n:Nat):List (FE Tryz.prog):=[(c16 n).e]
def Of (n:Nat):LP Tryz.prog Tryz.f13.ntmps:=co (Md n) [] 0 (sb (acM [] [] Tryz.f13) 0) true ⟨[(1,.p 1 0),(3,.s),(4,.i .i64)],q83,2,1,1,1⟩ [] [⟨.exit 0,⟨[(1,.p 1 0),(3,.s)],q83,2,1,1,1⟩⟩] (bA n) n
def S8 (n:Nat):FF Tryz.prog 13 [.ag q14] q105 1 1 [⟨.s,[],[],false⟩]:=funC Tryz.func13 Tryz.call13 (Md n) [Of n] [] [] [0] (jv n)
def c17 (n:Nat):FF Tryz.prog 17 [.ag q14] q105 1 1 [⟨.i .i64,[],[],false⟩]:=funC Tryz.func17 Tryz.call17 [(c26 n).e] [] [] [] [0] (iP n)
def c5E (n:Nat):List (FE Tryz.prog):=[(c7 n).e,(c18 n).e,(c15 n).e,(c16 n).e,(c14 n).e,(c17 n).e,(c11 n).e,(S8 n).e]
def c5j1 (n:Nat):LP Tryz.prog Tryz.f5.ntmps:=bR (c5E n) [] 1001 (sb (acM [] [1,6,12,13,16] Tryz.f5) 1001) true ⟨[(2,.p 1 0),(3,.p 2 0)],q79,3,1,1,1⟩ [⟨.nrm,⟨[(2,.p 1 0),(3,.p 2 0),(53,.b)],q79,3,1,1,1⟩⟩] (dq n)
def c5j6 (n:Nat):LP Tryz.prog Tryz.f5.ntmps:=bR (c5E n) [] 1006 (sb (acM [] [1,6,12,13,16] Tryz.f5) 1006) true ⟨[(2,.p 1 0),(3,.p 2 0),(5,.i .i64),(6,.s),(7,.i .i64)],q79,3,1,1,1⟩ [⟨.nrm,⟨[(2,.p 1 0),(3,.p 2 0),(82,.b)],q79,3,1,1,1⟩⟩] (dw n)
def Rr (n:Nat):LP Tryz.prog Tryz.f5.ntmps:=bR (c5E n) [] 1012 (sb (acM [] [1,6,12,13,16] Tryz.f5) 1012) true ⟨[(8,.p 1 0),(9,.i .i64)],q84,3,1,1,1⟩ [⟨.nrm,q130⟩] (da n)
def Sr (n:Nat):LP Tryz.prog Tryz.f5.ntmps:=bR (c5E n) [] 1013 (sb (acM [] [1,6,12,13,16] Tryz.f5) 1013) true q130 [⟨.nrm,⟨[(8,.p 1 0),(9,.i .i64)],q84,3,1,1,1⟩⟩] (eB n)
def SJ (n:Nat):LP Tryz.prog Tryz.f5.ntmps:=bR (c5E n) [] 1016 (sb (acM [] [1,6,12,13,16] Tryz.f5) 1016) true ⟨[(8,.p 1 0),(9,.i .i64),(10,.s),(11,.i .i64)],q84,3,1,1,1⟩ [⟨.nrm,⟨[(4,.b)],[],1,1,1,1⟩⟩] (cZ n)
def c5 (n:Nat):FF Tryz.prog 5 [.ag q37,.ag q21] [.rows q13] 1 1 [⟨.b,[],[],false⟩]:=funC Tryz.func5 Tryz.call5 (c5E n) [c5j1 n,c5j6 n,Rr n,Sr n,SJ n] [] [1,6,12,13,16] [0] (gD n)
end
end Go.Sh
