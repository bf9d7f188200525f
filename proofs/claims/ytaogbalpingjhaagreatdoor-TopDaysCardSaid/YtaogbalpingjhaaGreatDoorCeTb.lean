/- Each function of the program computes its plain function: the certificates.
   Conditions: none. Printed by the bench tool gen.py. -/
import Derived.Test.YtaogbalpingjhaaGreatDoorCeTa
import Derived.Test.YtaogbalpingjhaaGreatDoorYText
set_option linter.unusedVariables false
set_option linter.unusedSimpArgs false
set_option maxRecDepth 100000
set_option maxHeartbeats 4000000
namespace Go.Sh
open Go.Abs Go.Proofs
noncomputable section
abbrev q81:List (Nat×PB):=[(0,.rows q11),(1,.cells q14),(2,.rows [.s])]
abbrev q74:List (Nat×PB):=[(1,.cells [.i .i64])]
abbrev q21:List Lf:=[.bo,.bo,.s,.i .i64,.i .i64,.s,.s,.i .u8,.i .u8,.i .u8]
abbrev q80:List PX:=[⟨.exit 3,⟨[(3,.ws 1)],[(1,.rows q21)],2,1,1,1⟩⟩]
abbrev q77:List (Nat×PB):=[(1,.cells [.i .i64]),(2,.cells q22),(3,.rows q21)]
abbrev q38:PSt:=⟨[(5,.p 1 0),(6,.fn 94 [.p 1 0]),(8,.p 2 0),(9,.i .i64),(10,.b),(11,.i .i64),(12,.b),(13,.i .i64),(49,.rs 10 3 0 .q (some .q)),(50,.i .i64),(51,.i .i64)],q77,4,1,1,1⟩
abbrev q43:List PX:=[⟨.exit 2,⟨[(5,.p 1 0),(6,.fn 94 [.p 1 0]),(8,.p 2 0),(9,.i .i64),(10,.b),(12,.b),(49,.rs 10 3 0 .q (some .q)),(50,.i .i64),(51,.i .i64)],q77,4,1,1,1⟩⟩]
abbrev q52:PSt:=⟨[(5,.p 1 0),(6,.fn 94 [.p 1 0]),(49,.rs 10 2 0 .q (some .q)),(50,.i .i64),(51,.i .i64)],[(1,.cells [.i .i64]),(2,.rows q21)],3,1,1,1⟩
abbrev q27:List (Nat×PB):=[(1,.rows [.i .i64]),(2,.rows [.i .i64]),(3,.cells [.b,.b,.s,.i .i64,.i .i64,.s,.s,.i .u8,.i .u8,.i .u8,.ws 1,.ws 2])]
abbrev q61:PSt:=⟨[(5,.p 3 0),(8,.i .i64),(9,.i .i64),(63,.ws 1),(64,.i .i64),(65,.i .i64)],q27,4,0,0,0⟩
abbrev q82:List (Nat×PB):=[(0,.rows q11),(1,.cells q13),(2,.rows [.s])]
abbrev q72:List (Nat×PB):=[(0,.cells q22),(1,.cells q28),(2,.cells q28),(3,.cells q57)]
noncomputable def Hg (n:Nat):Ent:=BK 7 (bi n)
theorem Em (n:Nat):cD Tryz.prog (Hg n):=Do Tryz.call7 (AY n) (ES n)
def c7 (n:Nat):FE Tryz.prog:=libF (Em n)
def c8 (n:Nat):PF Tryz.prog 8 [.i .u8] (.tp q20):=aB Tryz.func8 Tryz.call8 [(c34 n).e,(c35 n).e] [] [] [] (oW n)
noncomputable def CS (_n:Nat):Ent:=HW 159
theorem zK (n:Nat):cD Tryz.prog (CS n):=Ek Tryz.call159 Tryz.strings_Join_none Tryz.strings_Join
def c159 (n:Nat):FE Tryz.prog:=libF (zK n)
def c91E (n:Nat):List (FE Tryz.prog):=[(c41 n).e,(c6 n).e,(c158 n).e,(c7 n),(c8 n).e,(c159 n)]
def Kt (n:Nat):LP Tryz.prog Tryz.f91.ntmps:=cb (c91E n) [] 0 (sb (acM [] [] Tryz.f91) 0) false ⟨[(6,.p 1 0),(7,.p 2 0),(11,.ws 3),(48,.rs 1 4 0 .q none),(49,.i .i64),(50,.i .i64)],[(1,.ints .u8 3),(2,.ints .u8 3),(3,.rows [.s]),(4,.rows [.s])],5,0,0,0⟩ [] [⟨.exit 0,⟨[(11,.ws 3)],[(3,.rows [.s])],5,0,0,0⟩⟩] (gL n) n
def c91 (n:Nat):PF Tryz.prog 91 q66 (.tp q20):=aB Tryz.func91 Tryz.call91 (c91E n) [Kt n] [] [] (ek n)
def c90 (n:Nat):FF Tryz.prog 90 q79 q51 1 1 [⟨.tp q20,[],[],false⟩]:=funC Tryz.func90 Tryz.call90 [(c91 n).e] [] [] [] [0] (jF n)
def c160 (n:Nat):PF Tryz.prog 160 [.ag q48] (.tp q20):=aB Tryz.func160 Tryz.call160 [(c200 n).e,(c91 n).e] [] [] [] (jp n)
def c92 (n:Nat):FF Tryz.prog 92 q79 q51 1 1 [⟨.tp q20,[],[],false⟩]:=funC Tryz.func92 Tryz.call92 [(c160 n).e] [] [] [] [0] (kr n)
def c161 (n:Nat):PF Tryz.prog 161 [.ag q18] (.tp q20):=aB Tryz.func161 Tryz.call161 [(c202 n).e,(c91 n).e] [] [] [] (jP n)
def c93E (n:Nat):List (FE Tryz.prog):=[(c43 n).e,(c161 n).e,(c162 n).e,(c159 n)]
def JY (n:Nat):LP Tryz.prog Tryz.f93.ntmps:=cb (c93E n) [] 0 (sb (acM [] [] Tryz.f93) 0) true ⟨[(1,.p 1 0),(5,.ws 2),(28,.ws 0),(29,.i .i64),(30,.i .i64)],q81,3,1,1,1⟩ [] [⟨.exit 0,⟨[(1,.p 1 0),(5,.ws 2)],q81,3,1,1,1⟩⟩] (kX n) n
def c93 (n:Nat):FF Tryz.prog 93 q79 q51 1 1 [⟨.tp q20,[],[],false⟩]:=funC Tryz.func93 Tryz.call93 (c93E n) [JY n] [] [] [0] (oV n)
def c12 (n:Nat):FF Tryz.prog 12 q79 q51 1 1 [⟨.tp q20,[],[],false⟩]:=funC Tryz.func12 Tryz.call12 [(c43 n).e,(c44 n).e,(c90 n).e,(c92 n).e,(c93 n).e] [] [] [] [0] (jB n)
def Kp (n:Nat):LP Tryz.prog Tryz.f94.ntmps:=cb [] [] 0 (sb (acM [] [] Tryz.f94) 0) true ⟨[(1,.p 1 0),(5,.ws 0),(6,.i .i64),(7,.i .i64)],[(0,.rows [.i .i64,.bo]),(1,.cells [.i .i64])],2,2,1,2⟩ [] [⟨.exit 0,⟨[],q74,2,2,1,2⟩⟩] (iH n) n
def c94 (n:Nat):FF Tryz.prog 94 [.ws 0,.p 1 0] [.rows [.i .i64,.bo],.cells [.i .i64]] 1 2 [⟨.tp [],q74,[],false⟩]:=funC Tryz.func94 Tryz.call94 [] [Kp n] [] [] [0,1] (am n)
def c96 (n:Nat):FF Tryz.prog 96 [.ws 0] [.rows q21] 1 1 [⟨.rs 10 0 0 .q (some .q),[],[],false⟩]:=funC Tryz.func96 Tryz.call96 [] [] [] [] [0] (aj n)
def c46E (n:Nat):List (FE Tryz.prog):=[(c96 n).e]
def KD (n:Nat):LP Tryz.prog Tryz.f46.ntmps:=cb (c46E n) [] 1 (sb (acM [0] [] Tryz.f46) 1) true ⟨[(3,.ws 1),(40,.ws 0),(41,.i .i64),(42,.i .i64)],[(0,.rows q11),(1,.rows q21)],2,1,1,1⟩ [] q80 (jS n) n
def c46 (n:Nat):FF Tryz.prog 46 q79 q51 1 1 [⟨.rs 10 1 0 .q (some .q),[(1,.rows q21)],[1],false⟩]:=funC Tryz.func46 Tryz.call46 (c46E n) [KD n] [0] [] [0] (dT n)
def c45E (n:Nat):List (FE Tryz.prog):=[(c43 n).e,(c94 n).e,(c46 n).e,(c64 n).e,(c6 n).e,(c95 n).e]
def Kx (n:Nat):LP Tryz.prog Tryz.f45.ntmps:=cb (c45E n) [] 1 (sb (sb (acM [] [] Tryz.f45) 0).body 1) true q38 [] q43 (jH n) n
def J6 (n:Nat):LP Tryz.prog Tryz.f45.ntmps:=cb (c45E n) [Kx n] 0 (sb (acM [] [] Tryz.f45) 0) true q52 [] [⟨.exit 0,⟨[(5,.p 1 0)],q74,2,1,1,1⟩⟩] (bO n) n
def c45 (n:Nat):FF Tryz.prog 45 q79 q51 1 1 [⟨.tp [.i .i64,.i .i64],[],[],false⟩]:=funC Tryz.func45 Tryz.call45 (c45E n) [J6 n] [] [] [0] (js n)
def c97 (n:Nat):PF Tryz.prog 97 q66 (.i .i64):=aB Tryz.func97 Tryz.call97 [(c50 n).e] [] [] [] (mK n)
def c213 (_n:Nat):FE Tryz.prog:=libF (B6 Tryz.func213 (by kernel_rfl) (by kernel_rfl) (by kernel_rfl) (by kernel_rfl))
def c166 (n:Nat):PF Tryz.prog 166 [.s,.sk [88]] (.i .i64):=aB Tryz.func166 Tryz.call166 [(c213 n)] [noL 0 (sb (acM [] [] Tryz.f166) 0)] [] [] (nM n)
def c99 (n:Nat):PF Tryz.prog 99 [.s] (.tp [.i .i64,.i .i64]):=aB Tryz.func99 Tryz.call99 [(c164 n).e,(c166 n).e,(c165 n).e] [] [] [] (ru n)
def c47E (n:Nat):List (FE Tryz.prog):=[(c97 n).e,(c98 n).e,(c48 n).e,(c99 n).e,(c100 n).e,(c101 n).e]
def J1 (n:Nat):LP Tryz.prog Tryz.f47.ntmps:=cb (c47E n) [] 2 (sb (sb (sb (acM [] [] Tryz.f47) 0).body 1).body 2) false ⟨[(5,.p 3 0),(8,.i .i64),(9,.i .i64),(13,.i .i64),(63,.ws 1),(64,.i .i64),(65,.i .i64),(74,.ws 2),(75,.i .i64),(76,.i .i64)],q27,4,0,0,0⟩ [] [⟨.exit 4,q61⟩] (ke n) n
def JV (n:Nat):LP Tryz.prog Tryz.f47.ntmps:=cb (c47E n) [J1 n] 1 (sb (sb (acM [] [] Tryz.f47) 0).body 1) false q61 [] [⟨.exit 2,⟨[(5,.p 3 0),(8,.i .i64),(9,.i .i64)],q27,4,0,0,0⟩⟩] (kv n) n
def J7 (n:Nat):LP Tryz.prog Tryz.f47.ntmps:=cb (c47E n) [JV n] 0 (sb (acM [] [] Tryz.f47) 0) false ⟨[(5,.p 3 0),(8,.i .i64),(9,.i .i64),(10,.b)],q27,4,0,0,0⟩ [] [⟨.exit 0,⟨[(8,.i .i64)],[],4,0,0,0⟩⟩] (fb n) n
def c47 (n:Nat):PF Tryz.prog 47 q66 (.tp [.i .i64,.i .i64]):=aB Tryz.func47 Tryz.call47 (c47E n) [J7 n] [] [] (fm n)
def G8 (n:Nat):FF Tryz.prog 43 q78 q51 1 1 [⟨.i .i64,[],[],false⟩]:=funC Tryz.func43 Tryz.call43 [(c89 n).e] [] [] [] [0] (ge n)
def Kr (n:Nat):FF Tryz.prog 90 q78 q51 1 1 [⟨.tp q20,[],[],false⟩]:=funC Tryz.func90 Tryz.call90 [(c91 n).e] [] [] [] [0] (iM n)
def KA (n:Nat):FF Tryz.prog 92 q78 q51 1 1 [⟨.tp q20,[],[],false⟩]:=funC Tryz.func92 Tryz.call92 [(c160 n).e] [] [] [] [0] (jz n)
def Gt (n:Nat):List (FE Tryz.prog):=[(G8 n).e,(c161 n).e,(c162 n).e,(c159 n)]
def Hk (n:Nat):LP Tryz.prog Tryz.f93.ntmps:=cb (Gt n) [] 0 (sb (acM [] [] Tryz.f93) 0) true ⟨[(1,.p 1 0),(5,.ws 2),(28,.rs 21 0 0 .q (some .q)),(29,.i .i64),(30,.i .i64)],q82,3,1,1,1⟩ [] [⟨.exit 0,⟨[(1,.p 1 0),(5,.ws 2)],q82,3,1,1,1⟩⟩] (jy n) n
def KC (n:Nat):FF Tryz.prog 93 q78 q51 1 1 [⟨.tp q20,[],[],false⟩]:=funC Tryz.func93 Tryz.call93 (Gt n) [Hk n] [] [] [0] (lu n)
def KG (n:Nat):FF Tryz.prog 12 q78 q51 1 1 [⟨.tp q20,[],[],false⟩]:=funC Tryz.func12 Tryz.call12 [(G8 n).e,(c44 n).e,(Kr n).e,(KA n).e,(KC n).e] [] [] [] [0] (gS n)
def Ge (n:Nat):List (FE Tryz.prog):=[(c96 n).e]
def HC (n:Nat):LP Tryz.prog Tryz.f46.ntmps:=cb (Ge n) [] 1 (sb (acM [0] [] Tryz.f46) 1) true ⟨[(3,.ws 1),(40,.rs 21 0 0 .q (some .q)),(41,.i .i64),(42,.i .i64)],[(0,.rows q11),(1,.rows q21)],2,1,1,1⟩ [] q80 (iG n) n
def IE (n:Nat):FF Tryz.prog 46 q78 q51 1 1 [⟨.rs 10 1 0 .q (some .q),[(1,.rows q21)],[1],false⟩]:=funC Tryz.func46 Tryz.call46 (Ge n) [HC n] [0] [] [0] (cE n)
def BH (n:Nat):List (FE Tryz.prog):=[(G8 n).e,(c94 n).e,(IE n).e,(c64 n).e,(c6 n).e,(c95 n).e]
def H9 (n:Nat):LP Tryz.prog Tryz.f45.ntmps:=cb (BH n) [] 1 (sb (sb (acM [] [] Tryz.f45) 0).body 1) true q38 [] q43 (iK n) n
def HI (n:Nat):LP Tryz.prog Tryz.f45.ntmps:=cb (BH n) [H9 n] 0 (sb (acM [] [] Tryz.f45) 0) true q52 [] [⟨.exit 0,⟨[(5,.p 1 0)],q74,2,1,1,1⟩⟩] (bq n) n
def Ko (n:Nat):FF Tryz.prog 45 q78 q51 1 1 [⟨.tp [.i .i64,.i .i64],[],[],false⟩]:=funC Tryz.func45 Tryz.call45 (BH n) [HI n] [] [] [0] (gM n)
def c14 (n:Nat):PF Tryz.prog 14 [] (.b):=aB Tryz.func14 Tryz.call14 [(c42 n).e,altF (c12 n).e ((KG n).e) (Eq.trans (b:=12) rfl rfl),altF (c45 n).e ((Ko n).e) (Eq.trans (b:=45) rfl rfl),altF (c46 n).e ((IE n).e) (Eq.trans (b:=46) rfl rfl),(c47 n).e,(c17 n).e] [] [] [] (f8 n)
def c4E (n:Nat):List (FE Tryz.prog):=[(c15 n).e,(c16 n).e,(c17 n).e,(c18 n).e,(c19 n).e,(c20 n).e,(c21 n).e,(c22 n).e,(c23 n).e,(c14 n).e]
def c4l0 (n:Nat):LP Tryz.prog Tryz.f4.ntmps:=cb (c4E n) [] 0 (sb (acM [] [] Tryz.f4) 0) true ⟨[(3,.p 0 0),(4,.i .i64),(6,.p 1 0),(8,.p 2 0),(14,.p 3 0),(15,.i .i64)],q72,4,0,0,0⟩ [] [⟨.ret,⟨[(2,.b)],[],0,0,0,0⟩⟩,⟨.exit 0,⟨[(3,.p 0 0),(6,.p 1 0),(8,.p 2 0),(14,.p 3 0)],q72,4,0,0,0⟩⟩] (ch n) n
def c4 (n:Nat):PF Tryz.prog 4 [.ag q32] (.b):=aB Tryz.func4 Tryz.call4 (c4E n) [c4l0 n] [] [] (fG n)
theorem pure_circatop_TopDays (n:Nat):∀a r,fG n a.1 a.2.1 a.2.2.1 a.2.2.2.1 a.2.2.2.2.1 a.2.2.2.2.2.1 a.2.2.2.2.2.2.1 a.2.2.2.2.2.2.2.1 a.2.2.2.2.2.2.2.2.1 a.2.2.2.2.2.2.2.2.2=some r->f7 Tryz.prog 4 (argP [.ag q32] a) (encP (.b) r):=λa r h=>(c4 n).ok a r h
end
end Go.Sh
