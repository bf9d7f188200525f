/- Each function of the program computes its plain function: the certificates.
   Conditions: none. Printed by the bench tool gen.py. -/
import Derived.Test.YtpkdacjndoiabaaGreatDoorYText
set_option linter.unusedVariables false
set_option linter.unusedSimpArgs false
set_option maxRecDepth 100000
set_option maxHeartbeats 4000000
namespace Go.Sh
open Go.Abs Go.Proofs
noncomputable section
abbrev q143:List (Nat×PB):=[(0,.rows q12),(1,.cells q14),(2,.rows [.s])]
abbrev q71:List (Nat×PB):=[(0,.ints .u8 3),(1,.ints .u8 3),(2,.ints .u8 3),(3,.ints .u8 3),(4,.ints .u8 3)]
abbrev q57:List PV:=[.i .u8,.b,.i .u16,.i .u8,.i .u8,.i .u8,.i .u8,.i .u8,.i .u8,.i .u8]
abbrev q13:List Lf:=[.i .u8,.bo,.i .u16,.i .u8,.i .u8,.i .u8,.i .u8,.i .u8,.i .u8,.i .u8,.i .u8,.i .u8,.bo,.i .u16,.i .u8,.i .u8,.i .u8,.i .u8,.i .u8,.i .u8,.i .u8]
abbrev q101:List PV:=[.i .u8,.ws 0,.i .u8,.i .u8,.i .u8]
abbrev q37:List (Nat×PB):=[(0,.rows q13),(1,.cells q101),(2,.cells q19),(3,.rows q12)]
abbrev q39:List (Nat×PB):=[(0,.rows q13),(1,.cells q101),(2,.cells q18),(3,.rows q13),(4,.rows q12)]
abbrev q60:PSt:=⟨[(1,.p 1 0),(2,.p 2 0),(3,.rs 21 3 0 .q none),(23,.i .u8),(24,.b)],q39,5,1,1,1⟩
abbrev q61:PSt:=⟨[(1,.p 1 0),(2,.p 2 0),(3,.rs 21 0 0 .q none),(23,.i .u8),(24,.b)],q37,4,1,1,1⟩
abbrev q36:List PV:=[.i .u8,.bd,.b,.s,.i .i64,.i .i64,.s,.s,.i .u8,.i .u8,.i .u8]
abbrev q112:List (Nat×PB):=[(1,.cells q34),(2,.rows q13),(3,.cells q36),(4,.cells q36),(5,.rows q12)]
abbrev q52:List PX:=[⟨.nrm,⟨[(2,.p 1 0),(4,.p 2 0),(5,.p 3 0)],[(1,.cells q18),(2,.cells q36),(3,.cells q36),(4,.rows q12)],5,1,1,1⟩⟩]
abbrev q113:List (Nat×PB):=[(0,.rows q13),(1,.cells q18),(2,.cells q36),(3,.cells q36),(4,.rows q12)]
abbrev q138:List (Nat×PV):=[(2,.p 1 0),(3,.rs 21 2 0 .q none),(6,.p 3 0)]
abbrev q47:List (Nat×PB):=[(1,.cells q18),(2,.rows q13),(3,.cells [.i .u8,.bk false,.bk false,.sk [],.ik .i64 0,.ik .i64 0,.sk [],.sk [],.ik .u8 0,.ik .u8 0,.ik .u8 0,.ik .u8 0,.bk false,.bk false,.sk [],.ik .i64 0,.ik .i64 0,.sk [],.sk [],.ik .u8 0,.ik .u8 0,.ik .u8 0,.ik .u8 0,.bk false,.bk false,.sk [],.ik .i64 0,.ik .i64 0,.sk [],.sk [],.ik .u8 0,.ik .u8 0,.ik .u8 0,.ws 5,.b,.b]),(4,.rows q12),(5,.rows q12)]
abbrev q139:List (Nat×PV):=[(2,.p 1 0),(3,.rs 21 0 0 .q none),(6,.p 2 0)]
abbrev q48:List (Nat×PB):=[(0,.rows q13),(1,.cells q19),(2,.cells [.i .u8,.bk false,.bk false,.sk [],.ik .i64 0,.ik .i64 0,.sk [],.sk [],.ik .u8 0,.ik .u8 0,.ik .u8 0,.ik .u8 0,.bk false,.bk false,.sk [],.ik .i64 0,.ik .i64 0,.sk [],.sk [],.ik .u8 0,.ik .u8 0,.ik .u8 0,.ik .u8 0,.bk false,.bk false,.sk [],.ik .i64 0,.ik .i64 0,.sk [],.sk [],.ik .u8 0,.ik .u8 0,.ik .u8 0,.ws 4,.b,.b]),(3,.rows q12),(4,.rows q12)]
abbrev q63:List (Nat×PB):=[(1,.cells q16),(2,.rows q13),(3,.cells q24),(4,.rows q12),(5,.rows q12)]
abbrev q64:List (Nat×PB):=[(0,.rows q13),(1,.cells q15),(2,.cells q16),(3,.rows q12),(4,.rows q12)]
abbrev q40:List (Nat×PB):=[(1,.cells q15),(2,.cells q16),(3,.rows q12),(4,.rows q12)]
abbrev q104:PSt:=⟨[(2,.p 1 0),(6,.p 2 0),(8,.i .i64)],q40,5,1,1,1⟩
abbrev q140:PSt:=⟨[(2,.p 1 0),(6,.p 2 0),(139,.b)],q40,5,1,1,1⟩
abbrev q54:List (Nat×PB):=[(1,.cells q20),(2,.rows q12)]
abbrev q144:PSt:=⟨[(3,.p 1 0),(4,.s),(5,.i .i64)],q54,3,1,1,1⟩
abbrev q68:List (Nat×PV):=[(3,.p 1 0),(4,.s),(5,.i .i64),(6,.p 2 0),(7,.i .i64),(8,.i .i64)]
abbrev q69:List (Nat×PB):=[(1,.cells q15),(2,.cells q22),(3,.rows q12),(4,.rows q12)]
abbrev q132:List PX:=[⟨.nrm,⟨[(3,.p 1 0),(4,.s),(69,.b)],q54,3,1,1,1⟩⟩]
abbrev q56:List (Nat×PV):=[(3,.p 1 0),(4,.s),(9,.i .i64),(10,.s),(11,.i .i64),(12,.p 2 0),(13,.i .i64),(14,.i .i64)]
abbrev q123:List PX:=[⟨.nrm,⟨[(3,.p 1 0),(4,.s),(9,.i .i64),(131,.b)],q54,3,1,1,1⟩⟩]
abbrev q105:PSt:=⟨[(3,.p 1 0),(4,.s),(9,.i .i64)],q54,3,1,1,1⟩
noncomputable def KK (n:Nat):Ent:=Jf 76 (ck n)
theorem Ig (n:Nat):gz Tryz.prog (KK n):=HE Tryz.call76 (IQ n) (Lb n)
def c76 (n:Nat):FE Tryz.prog:=libF (Ig n)
def c77 (n:Nat):PF Tryz.prog 77 [.i .u8] (.tp q38):=aL Tryz.func77 Tryz.call77 [(c124 n).e,(c125 n).e] [] [] [] (qf n)
noncomputable def JS (_n:Nat):Ent:=Mv 28
theorem HW (n:Nat):gz Tryz.prog (JS n):=JN Tryz.call28 Tryz.strings_Join_none Tryz.strings_Join
def c28 (n:Nat):FE Tryz.prog:=libF (HW n)
def c37E (n:Nat):List (FE Tryz.prog):=[(c73 n).e,(c74 n).e,(c75 n).e,(c76 n),(c77 n).e,(c28 n)]
def QM (n:Nat):LP Tryz.prog Tryz.f37.ntmps:=cN (c37E n) [] 0 (sb (acM [] [] Tryz.f37) 0) false ⟨[(6,.p 1 0),(7,.p 2 0),(11,.ws 3),(48,.rs 1 4 0 .q none),(49,.i .i64),(50,.i .i64)],[(1,.ints .u8 3),(2,.ints .u8 3),(3,.rows [.s]),(4,.rows [.s])],5,0,0,0⟩ [] [⟨.exit 0,⟨[(11,.ws 3)],[(3,.rows [.s])],5,0,0,0⟩⟩] (aQ n) n
def c37 (n:Nat):PF Tryz.prog 37 q88 (.tp q38):=aL Tryz.func37 Tryz.call37 (c37E n) [QM n] [] [] (eU n)
def c15 (n:Nat):PF Tryz.prog 15 [.ag q26] (.tp q38):=aL Tryz.func15 Tryz.call15 [(c36 n).e,(c37 n).e] [] [] [] (fV n)
def c11E (n:Nat):List (FE Tryz.prog):=[(c12 n).e,(c15 n).e,(c27 n).e,(c28 n)]
def QR (n:Nat):LP Tryz.prog Tryz.f11.ntmps:=cN (c11E n) [] 0 (sb (acM [] [] Tryz.f11) 0) true ⟨[(1,.p 1 0),(5,.ws 2),(28,.ws 0),(29,.i .i64),(30,.i .i64)],q143,3,1,1,1⟩ [] [⟨.exit 0,⟨[(1,.p 1 0),(5,.ws 2)],q143,3,1,1,1⟩⟩] (dX n) n
def c11 (n:Nat):FF Tryz.prog 11 [.ag q14] q108 1 1 [⟨.tp q38,[],[],false⟩]:=funC Tryz.func11 Tryz.call11 (c11E n) [QR n] [] [] [0] (kJ n)
def Q4 (n:Nat):LP Tryz.prog Tryz.f78.ntmps:=cN [] [] 0 (sb (acM [] [] Tryz.f78) 0) false ⟨[(1,.i .i64),(2,.p 0 0),(4,.p 1 0),(5,.p 2 0),(6,.p 3 0),(7,.p 4 0),(8,.b),(9,.i .i64)],q71,5,0,0,0⟩ [] [⟨.exit 0,⟨[(1,.i .i64),(2,.p 0 0),(4,.p 1 0),(5,.p 2 0),(6,.p 3 0),(7,.p 4 0),(8,.b)],q71,5,0,0,0⟩⟩] (mI n) n
def Q6 (n:Nat):LP Tryz.prog Tryz.f78.ntmps:=cN [] [] 1 (sb (acM [] [] Tryz.f78) 1) false ⟨[(1,.i .i64),(2,.p 0 0),(4,.p 1 0),(5,.p 2 0),(6,.p 3 0),(7,.p 4 0),(10,.i .i64)],q71,5,0,0,0⟩ [] [⟨.exit 2,⟨[(4,.p 1 0),(5,.p 2 0),(6,.p 3 0),(7,.p 4 0)],[(1,.ints .u8 3),(2,.ints .u8 3),(3,.ints .u8 3),(4,.ints .u8 3)],5,0,0,0⟩⟩] (mS n) n
def c78 (n:Nat):PF Tryz.prog 78 q122 (.tp [.ai .u8 3,.ai .u8 3]):=aL Tryz.func78 Tryz.call78 [] [Q4 n,Q6 n] [] [] (jy n)
def c126 (n:Nat):PF Tryz.prog 126 [.i .i64] (.s):=aL Tryz.func126 Tryz.call126 [] [] [] [] (aE n)
def c80 (n:Nat):PF Tryz.prog 80 q133 (.s):=aL Tryz.func80 Tryz.call80 [(c126 n).e] [] [] [] (kr n)
def c38 (n:Nat):PF Tryz.prog 38 q88 (.s):=aL Tryz.func38 Tryz.call38 [(c41 n).e,(c78 n).e,(c79 n).e,(c80 n).e] [] [] [] (d7 n)
def c16 (n:Nat):PF Tryz.prog 16 [.ag q26] (.s):=aL Tryz.func16 Tryz.call16 [(c38 n).e] [] [] [] (dB n)
def c109 (n:Nat):PF Tryz.prog 109 [.i .u16] (.s):=aL Tryz.func109 Tryz.call109 [] [] [] [] (kl n)
def c61E (n:Nat):List (FE Tryz.prog):=[(c109 n).e,(c110 n).e]
def RK (n:Nat):LP Tryz.prog Tryz.f61.ntmps:=cN (c61E n) [] 0 (sb (acM [] [] Tryz.f61) 0) false ⟨[(2,.p 1 0),(3,.p 50 0),(4,.i .i64),(5,.i .i64),(6,.s),(7,.i .i64)],[(1,.cells q45),(50,.cells q45)],162,0,0,0⟩ [] [⟨.exit 1,⟨[(2,.p 1 0),(3,.p 50 0),(6,.s)],[(1,.cells q45),(50,.cells q45)],162,0,0,0⟩⟩] (fB n) n
def c61 (n:Nat):PF Tryz.prog 61 [.ag [.i .u8,.b,.i .u16,.i .u8,.i .u8]] (.ag q45):=aL Tryz.func61 Tryz.call61 (c61E n) [RK n] [] [] (iD n)
def c62 (n:Nat):PF Tryz.prog 62 [.ag q57] (.s):=aL Tryz.func62 Tryz.call62 [(c111 n).e] [] [] [] (fF n)
def c64 (n:Nat):PF Tryz.prog 64 [.ag q57,.s] (.s):=aL Tryz.func64 Tryz.call64 [(c111 n).e] [] [] [] (ib n)
def c30 (n:Nat):PF Tryz.prog 30 [.ag q57] (.ag q27):=aL Tryz.func30 Tryz.call30 [(c61 n).e,(c62 n).e,(c63 n).e,(c64 n).e,(c41 n).e] [] [0] [] (aF n)
def c33 (n:Nat):PF Tryz.prog 33 [.ag q57] (.ag q27):=aL Tryz.func33 Tryz.call33 [(c30 n).e] [] [] [] (bv n)
def c31 (n:Nat):PF Tryz.prog 31 [.ag [.i .u8,.i .u8,.b,.i .u16,.i .u8,.i .u8,.i .u8,.i .u8,.i .u8,.i .u8,.i .u8]] (.ag q50):=aL Tryz.func31 Tryz.call31 [(c33 n).e] [] [] [] (ca n)
def c35 (n:Nat):PF Tryz.prog 35 [.ag q57] (.ag q49):=aL Tryz.func35 Tryz.call35 [(c33 n).e] [] [] [] (bZ n)
def c66 (n:Nat):PF Tryz.prog 66 [.ag q49,.i .i64] (.ag q49):=aL Tryz.func66 Tryz.call66 [] [] [] [] (jp n)
def c34 (n:Nat):PF Tryz.prog 34 [.ag [.i .u8,.b,.i .u16,.i .u8,.i .u8,.i .u8,.i .u8,.i .u8,.i .u8,.i .u8,.i .u8,.i .u8,.b,.i .u16,.i .u8,.i .u8,.i .u8,.i .u8,.i .u8,.i .u8,.i .u8],.b] (.ag q26):=aL Tryz.func34 Tryz.call34 [(c35 n).e,(c41 n).e,(c66 n).e,(c42 n).e,(c33 n).e,(c30 n).e] [] [] [] (gn n)
def c14E (n:Nat):List (FE Tryz.prog):=[(c30 n).e,(c31 n).e,(c32 n).e,(c33 n).e,(c34 n).e,(c35 n).e]
def QS (n:Nat):LP Tryz.prog Tryz.f14.ntmps:=bW (c14E n) [] 1003 (sb (acM [] [3,9,11,16,22,24,30,41,44,46,47] Tryz.f14) 1003) true ⟨[(1,.p 1 0),(2,.p 2 0),(3,.ws 0),(13,.b)],q37,4,1,1,1⟩ [⟨.nrm,⟨[(1,.p 1 0),(2,.p 2 0),(3,.ws 3)],q39,5,1,1,1⟩⟩,⟨.nrm,⟨[(1,.p 1 0),(2,.p 2 0),(3,.ws 0)],q37,4,1,1,1⟩⟩] (ks n)
def Lh (n:Nat):LP Tryz.prog Tryz.f14.ntmps:=bW (c14E n) [] 1011 (sb (sb (acM [] [3,9,11,16,22,24,30,41,44,46,47] Tryz.f14) 1009) 1011) true q60 [⟨.nrm,q60⟩] (jF n)
def Gk (n:Nat):LP Tryz.prog Tryz.f14.ntmps:=bW (c14E n) [] 1011 (sb (sb (acM [] [3,9,11,16,22,24,30,41,44,46,47] Tryz.f14) 1009) 1011) true q61 [⟨.nrm,q61⟩] (je n)
def Rg (n:Nat):LP Tryz.prog Tryz.f14.ntmps:=bW (c14E n) [altL (Lh n) (Gk n) rfl] 1009 (sb (acM [] [3,9,11,16,22,24,30,41,44,46,47] Tryz.f14) 1009) true q60 [⟨.nrm,q60⟩] (iv n)
def PC (n:Nat):LP Tryz.prog Tryz.f14.ntmps:=bW (c14E n) [altL (Lh n) (Gk n) rfl] 1009 (sb (acM [] [3,9,11,16,22,24,30,41,44,46,47] Tryz.f14) 1009) true q61 [⟨.nrm,q61⟩] (gG n)
def O4 (n:Nat):LP Tryz.prog Tryz.f14.ntmps:=bW (c14E n) [] 1016 (sb (acM [] [3,9,11,16,22,24,30,41,44,46,47] Tryz.f14) 1016) true ⟨[(1,.p 1 0),(2,.p 2 0),(3,.rs 21 3 0 .q none),(23,.i .u8),(34,.b)],q39,5,1,1,1⟩ [⟨.nrm,⟨[(1,.p 1 0),(2,.p 2 0),(3,.rs 21 3 0 .q none),(34,.b)],q39,5,1,1,1⟩⟩] (gZ n)
def Ni (n:Nat):LP Tryz.prog Tryz.f14.ntmps:=bW (c14E n) [] 1016 (sb (acM [] [3,9,11,16,22,24,30,41,44,46,47] Tryz.f14) 1016) true ⟨[(1,.p 1 0),(2,.p 2 0),(3,.rs 21 0 0 .q none),(23,.i .u8),(34,.b)],q37,4,1,1,1⟩ [⟨.nrm,⟨[(1,.p 1 0),(2,.p 2 0),(3,.rs 21 0 0 .q none),(34,.b)],q37,4,1,1,1⟩⟩] (gc n)
def Ma (n:Nat):LP Tryz.prog Tryz.f14.ntmps:=bW (c14E n) [] 1024 (sb (sb (acM [] [3,9,11,16,22,24,30,41,44,46,47] Tryz.f14) 1022) 1024) true ⟨[(2,.p 1 0),(3,.rs 21 2 0 .q none),(4,.p 3 0),(5,.p 4 0),(61,.b)],q112,6,1,1,1⟩ q52 (jE n)
def Is (n:Nat):LP Tryz.prog Tryz.f14.ntmps:=bW (c14E n) [] 1024 (sb (sb (acM [] [3,9,11,16,22,24,30,41,44,46,47] Tryz.f14) 1022) 1024) true ⟨[(2,.p 1 0),(3,.rs 21 0 0 .q none),(4,.p 2 0),(5,.p 3 0),(61,.b)],q113,5,1,1,1⟩ q52 (jd n)
def Qm (n:Nat):LP Tryz.prog Tryz.f14.ntmps:=bW (c14E n) [altL (Ma n) (Is n) rfl] 1022 (sb (acM [] [3,9,11,16,22,24,30,41,44,46,47] Tryz.f14) 1022) true ⟨[(2,.p 1 0),(3,.rs 21 2 0 .q none),(4,.p 3 0),(5,.p 4 0),(58,.b)],q112,6,1,1,1⟩ q52 (gQ n)
def Oc (n:Nat):LP Tryz.prog Tryz.f14.ntmps:=bW (c14E n) [altL (Ma n) (Is n) rfl] 1022 (sb (acM [] [3,9,11,16,22,24,30,41,44,46,47] Tryz.f14) 1022) true ⟨[(2,.p 1 0),(3,.rs 21 0 0 .q none),(4,.p 2 0),(5,.p 3 0),(58,.b)],q113,5,1,1,1⟩ q52 (f9 n)
def Oy (n:Nat):LP Tryz.prog Tryz.f14.ntmps:=bW (c14E n) [] 1030 (sb (acM [] [3,9,11,16,22,24,30,41,44,46,47] Tryz.f14) 1030) true ⟨[(2,.p 1 0),(3,.rs 21 2 0 .q none),(6,.p 3 0),(86,.b)],[(1,.cells q18),(2,.rows q13),(3,.cells [.ik .u8 3,.bk false,.bk false,.sk [],.ik .i64 0,.ik .i64 0,.sk [],.sk [],.ik .u8 0,.ik .u8 0,.ik .u8 0,.ik .u8 0,.bk false,.bk false,.sk [],.ik .i64 0,.ik .i64 0,.sk [],.sk [],.ik .u8 0,.ik .u8 0,.ik .u8 0,.ik .u8 0,.bk false,.bk false,.sk [],.ik .i64 0,.ik .i64 0,.sk [],.sk [],.ik .u8 0,.ik .u8 0,.ik .u8 0,.ws 5,.b,.b]),(4,.rows q12),(5,.rows q12)],6,1,1,1⟩ [⟨.nrm,⟨q138,q47,6,1,1,1⟩⟩] (gX n)
def Me (n:Nat):LP Tryz.prog Tryz.f14.ntmps:=bW (c14E n) [] 1030 (sb (acM [] [3,9,11,16,22,24,30,41,44,46,47] Tryz.f14) 1030) true ⟨[(2,.p 1 0),(3,.rs 21 0 0 .q none),(6,.p 2 0),(86,.b)],[(0,.rows q13),(1,.cells q19),(2,.cells [.ik .u8 3,.bk false,.bk false,.sk [],.ik .i64 0,.ik .i64 0,.sk [],.sk [],.ik .u8 0,.ik .u8 0,.ik .u8 0,.ik .u8 0,.bk false,.bk false,.sk [],.ik .i64 0,.ik .i64 0,.sk [],.sk [],.ik .u8 0,.ik .u8 0,.ik .u8 0,.ik .u8 0,.bk false,.bk false,.sk [],.ik .i64 0,.ik .i64 0,.sk [],.sk [],.ik .u8 0,.ik .u8 0,.ik .u8 0,.ws 4,.b,.b]),(3,.rows q12),(4,.rows q12)],5,1,1,1⟩ [⟨.nrm,⟨q139,q48,5,1,1,1⟩⟩] (gf n)
def Ri (n:Nat):LP Tryz.prog Tryz.f14.ntmps:=cN (c14E n) [] 0 (sb (acM [] [3,9,11,16,22,24,30,41,44,46,47] Tryz.f14) 0) true ⟨[(2,.p 1 0),(3,.rs 21 2 0 .q none),(6,.p 3 0),(7,.i .i64)],q47,6,1,1,1⟩ [] [⟨.exit 1,⟨q138,q63,6,1,1,1⟩⟩] (cK n) n
def PL (n:Nat):LP Tryz.prog Tryz.f14.ntmps:=cN (c14E n) [] 0 (sb (acM [] [3,9,11,16,22,24,30,41,44,46,47] Tryz.f14) 0) true ⟨[(2,.p 1 0),(3,.rs 21 0 0 .q none),(6,.p 2 0),(7,.i .i64)],q48,5,1,1,1⟩ [] [⟨.exit 1,⟨q139,q64,5,1,1,1⟩⟩] (ci n) n
def Ou (n:Nat):LP Tryz.prog Tryz.f14.ntmps:=bW (c14E n) [] 1041 (sb (acM [] [3,9,11,16,22,24,30,41,44,46,47] Tryz.f14) 1041) true ⟨[(2,.p 1 0),(3,.rs 21 2 0 .q none),(6,.p 3 0),(8,.i .i64),(111,.b)],q63,6,1,1,1⟩ [⟨.nrm,⟨[(2,.p 1 0),(3,.rs 21 2 0 .q none),(6,.p 3 0),(8,.i .i64)],q63,6,1,1,1⟩⟩] (gW n)
def Nw (n:Nat):LP Tryz.prog Tryz.f14.ntmps:=bW (c14E n) [] 1041 (sb (acM [] [3,9,11,16,22,24,30,41,44,46,47] Tryz.f14) 1041) true ⟨[(2,.p 1 0),(3,.rs 21 0 0 .q none),(6,.p 2 0),(8,.i .i64),(111,.b)],q64,5,1,1,1⟩ [⟨.nrm,⟨[(2,.p 1 0),(3,.rs 21 0 0 .q none),(6,.p 2 0),(8,.i .i64)],q64,5,1,1,1⟩⟩] (gi n)
def Qi (n:Nat):LP Tryz.prog Tryz.f14.ntmps:=bW (c14E n) [] 1044 (sb (acM [] [3,9,11,16,22,24,30,41,44,46,47] Tryz.f14) 1044) true ⟨[(2,.p 1 0),(3,.rs 21 2 0 .q none),(6,.p 3 0),(8,.i .i64),(122,.b)],q63,6,1,1,1⟩ [⟨.nrm,q104⟩] (g9 n)
def MH (n:Nat):LP Tryz.prog Tryz.f14.ntmps:=bW (c14E n) [] 1044 (sb (acM [] [3,9,11,16,22,24,30,41,44,46,47] Tryz.f14) 1044) true ⟨[(2,.p 1 0),(3,.rs 21 0 0 .q none),(6,.p 2 0),(8,.i .i64),(122,.b)],q64,5,1,1,1⟩ [⟨.nrm,q104⟩] (gj n)
def Qf (n:Nat):LP Tryz.prog Tryz.f14.ntmps:=bW (c14E n) [] 1046 (sb (acM [] [3,9,11,16,22,24,30,41,44,46,47] Tryz.f14) 1046) true q104 [⟨.nrm,q140⟩] (fa n)
def Ov (n:Nat):LP Tryz.prog Tryz.f14.ntmps:=bW (c14E n) [] 1047 (sb (acM [] [3,9,11,16,22,24,30,41,44,46,47] Tryz.f14) 1047) true q140 [⟨.nrm,⟨[(2,.p 1 0),(6,.p 2 0)],q40,5,1,1,1⟩⟩] (fh n)
def c14 (n:Nat):FF Tryz.prog 14 [.ag q101] [.rows q13] 1 1 [⟨.ag q33,[(1,.rows q12)],[1],false⟩]:=funC Tryz.func14 Tryz.call14 (c14E n) [QS n,altL (Rg n) (PC n) rfl,altL (O4 n) (Ni n) rfl,altL (Qm n) (Oc n) rfl,altL (Oy n) (Me n) rfl,altL (Ri n) (PL n) rfl,altL (Ou n) (Nw n) rfl,altL (Qi n) (MH n) rfl,Qf n,Ov n] [] [3,9,11,16,22,24,30,41,44,46,47] [0] (jT n)
def Li (n:Nat):List (FE Tryz.prog):=[(c16 n).e]
def Ms (n:Nat):LP Tryz.prog Tryz.f13.ntmps:=cN (Li n) [] 0 (sb (acM [] [] Tryz.f13) 0) true ⟨[(1,.p 1 0),(3,.s),(4,.i .i64)],q85,2,1,1,1⟩ [] [⟨.exit 0,⟨[(1,.p 1 0),(3,.s)],q85,2,1,1,1⟩⟩] (bI n) n
def RO (n:Nat):FF Tryz.prog 13 [.ag q14] q108 1 1 [⟨.s,[],[],false⟩]:=funC Tryz.func13 Tryz.call13 (Li n) [Ms n] [] [] [0] (iL n)
def c17 (n:Nat):FF Tryz.prog 17 [.ag q14] q108 1 1 [⟨.i .i64,[],[],false⟩]:=funC Tryz.func17 Tryz.call17 [(c26 n).e] [] [] [] [0] (jx n)
def c4E (n:Nat):List (FE Tryz.prog):=[(c14 n).e,(c11 n).e,(c7 n).e,(c8 n).e,(RO n).e,altF (c10 n).e ((OB n).e) (Eq.trans (b:=10) rfl rfl),(c15 n).e,(c16 n).e,(c17 n).e]
def c4j3 (n:Nat):LP Tryz.prog Tryz.f4.ntmps:=bW (c4E n) [] 1003 (sb (acM [] [3,5,6,7,14,16,17,24] Tryz.f4) 1003) true q144 [⟨.nrm,⟨[(3,.p 1 0),(4,.s),(5,.i .i64),(32,.b)],q54,3,1,1,1⟩⟩] (eP n)
def c4j5 (n:Nat):LP Tryz.prog Tryz.f4.ntmps:=bW (c4E n) [] 1005 (sb (acM [] [3,5,6,7,14,16,17,24] Tryz.f4) 1005) true ⟨[(4,.s),(5,.i .i64)],[],1,1,1,1⟩ [⟨.nrm,⟨[(2,.b)],[],1,1,1,1⟩⟩] (gJ n)
def c4j6 (n:Nat):LP Tryz.prog Tryz.f4.ntmps:=bW (c4E n) [] 1006 (sb (acM [] [3,5,6,7,14,16,17,24] Tryz.f4) 1006) true q144 [⟨.nrm,⟨q68,q40,5,1,1,1⟩⟩,⟨.nrm,⟨q68,q69,5,1,1,1⟩⟩] (gP n)
def c4j7 (n:Nat):LP Tryz.prog Tryz.f4.ntmps:=bW (c4E n) [] 1007 (sb (acM [] [3,5,6,7,14,16,17,24] Tryz.f4) 1007) true ⟨q68,q40,5,1,1,1⟩ q132 (jP n)
def RB (n:Nat):LP Tryz.prog Tryz.f4.ntmps:=bW (c4E n) [] 1007 (sb (acM [] [3,5,6,7,14,16,17,24] Tryz.f4) 1007) true ⟨q68,q69,5,1,1,1⟩ q132 (gq n)
def QY (n:Nat):LP Tryz.prog Tryz.f4.ntmps:=bW (c4E n) [] 1016 (sb (sb (sb (acM [] [3,5,6,7,14,16,17,24] Tryz.f4) 0).body 1014) 1016) true ⟨[(3,.p 1 0),(4,.s),(9,.i .i64),(10,.s),(11,.i .i64)],q54,3,1,1,1⟩ [⟨.nrm,⟨q56,q40,5,1,1,1⟩⟩,⟨.nrm,⟨q56,q69,5,1,1,1⟩⟩] (gm n)
def Ry (n:Nat):LP Tryz.prog Tryz.f4.ntmps:=bW (c4E n) [] 1017 (sb (sb (sb (acM [] [3,5,6,7,14,16,17,24] Tryz.f4) 0).body 1014) 1017) true ⟨q56,q40,5,1,1,1⟩ q123 (jH n)
def Po (n:Nat):LP Tryz.prog Tryz.f4.ntmps:=bW (c4E n) [] 1017 (sb (sb (sb (acM [] [3,5,6,7,14,16,17,24] Tryz.f4) 0).body 1014) 1017) true ⟨q56,q69,5,1,1,1⟩ q123 (fL n)
def Rc (n:Nat):LP Tryz.prog Tryz.f4.ntmps:=bW (c4E n) [QY n,altL (Ry n) (Po n) rfl] 1014 (sb (sb (acM [] [3,5,6,7,14,16,17,24] Tryz.f4) 0).body 1014) true q105 [⟨.ret,⟨[(2,.bk false)],[],1,1,1,1⟩⟩,⟨.nrm,q105⟩] (eo n)
def c4l0 (n:Nat):LP Tryz.prog Tryz.f4.ntmps:=cN (c4E n) [Rc n] 0 (sb (acM [] [3,5,6,7,14,16,17,24] Tryz.f4) 0) true q105 [] [⟨.ret,⟨[(2,.b)],[],1,1,1,1⟩⟩,⟨.exit 0,⟨[(3,.p 1 0),(4,.s)],q54,3,1,1,1⟩⟩] (bT n) n
def RN (n:Nat):LP Tryz.prog Tryz.f4.ntmps:=bW (c4E n) [] 1024 (sb (acM [] [3,5,6,7,14,16,17,24] Tryz.f4) 1024) true ⟨[(4,.s),(15,.p 1 0),(16,.s),(17,.i .i64)],q54,3,1,1,1⟩ [⟨.nrm,⟨[(2,.b)],[],1,1,1,1⟩⟩] (dn n)
def c4 (n:Nat):FF Tryz.prog 4 [.ag q101] [.rows q13] 1 1 [⟨.b,[],[],false⟩]:=funC Tryz.func4 Tryz.call4 (c4E n) [c4j3 n,c4j5 n,c4j6 n,altL (c4j7 n) (RB n) rfl,c4l0 n,RN n] [] [3,5,6,7,14,16,17,24] [0] (jc n)
end
end Go.Sh
