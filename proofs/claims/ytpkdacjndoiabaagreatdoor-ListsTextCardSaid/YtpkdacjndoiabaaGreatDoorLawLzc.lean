/- Plain proofs, kept as far as they are needed here (printed by prune.py).
   Conditions: none. -/
import Derived.Test.YtpkdacjndoiabaaGreatDoorLawLzb
set_option linter.unusedVariables false
set_option linter.unusedSimpArgs false
set_option maxRecDepth 100000
namespace Go.Sh
open Go.Abs
theorem QK {g l:Bool} {d:aa} {x s:Int} (h:okY g l d x s):okY g l d x 0:=by
 unfold okY at h ⊢
 cases l with
 | true=>
  rw [ae rfl] at h ⊢
  unfold okL at h ⊢
  refine ⟨h.1,sD _,?_⟩
  omega
 | false=>
  rw [ab (by simp)] at h ⊢
  unfold okS at h ⊢
  obtain ⟨h1,h2,h3,h4,h5,h6,h7⟩:=h
  exact ⟨h1,h2,h3,h4,sD _,by omega,λh=>absurd h.1 (by omega)⟩
theorem Gn (m a0 a2 a3 a4 a5 a6 a7 a8 a9:Nat) (g:Bool) (h2:a2<65536) (h3:a3<256) (h4:a4<256) (h5:a5<256) (h6:a6<256):
  ∃g' l dg x q mo d,aF (m+300) (a0:Int) g (a2:Int) (a3:Int) (a4:Int) (a5:Int) (a6:Int) (a7:Int) (a8:Int) (a9:Int)=some (g',l,dg,x,q,mo,d,((mksT (bi mo d) a7 a8 a9).1:Int),((mksT (bi mo d) a7 a8 a9).2.1:Int),((mksT (bi mo d) a7 a8 a9).2.2:Int))/\
   okY g' l dg x q/\pX g' dg x=false/\(a0%6≠3->hasX dg=false)/\dg.length<=5/\(q≠0->mo=[]/\d=[])/\(q=0->mo=monT (a5%40))/\
   (d=[]\/(mo∈((List.range 12).map λi=>two (i+1))++[[48,88],[49,88],[88,50],[88,88],[88,48],[88,57]]/\mo≠[]/\sea mo=0/\d=dayT (a6%40) mo)):=by
 obtain ⟨g',l,dg,x,q,e,hY,hd5,hx11,hnX⟩:=Hg m a0 a2 a3 a4 g h2 h3 h4
 have hL:=Db hY hd5 hx11
 have t7:Int.tmod (a7:Int) 4=((a7%4:Nat):Int):=rfl
 have t8:Int.tmod (a8:Int) 4=((a8%4:Nat):Int):=rfl
 have t9:Int.tmod (a9:Int) 4=((a9%4:Nat):Int):=rfl
 obtain ⟨s1,s2,s3,s4,s5,s6⟩:=ir hY
 have tail:∀(mo d:aa) (o:Option (Bool×Bool×aa×Int×Int×aa×aa×Int×Int×Int)),
   (ob (ak (m+300) g' l dg x q mo d 0 0 0) λr=>(cond (decide ((0:Int)<r)) (ob (ak (m+300) g' l dg x q mo d (Int.tmod (a7:Int) 4) 0 0) λr=>(cond (decide ((1:Int)<r)) (ob (ak (m+300) g' l dg x q mo d (Int.tmod (a7:Int) 4) (Int.tmod (a8:Int) 4) 0) λr=>(cond (decide ((2:Int)<r)) (ob (ak (m+300) g' l dg x q mo d (Int.tmod (a7:Int) 4) (Int.tmod (a8:Int) 4) (Int.tmod (a9:Int) 4)) λr=>(cond (decide ((3:Int)<r)) none (some (g',l,dg,x,q,mo,d,(Int.tmod (a7:Int) 4),(Int.tmod (a8:Int) 4),(Int.tmod (a9:Int) 4))))) (some (g',l,dg,x,q,mo,d,(Int.tmod (a7:Int) 4),(Int.tmod (a8:Int) 4),0)))) (some (g',l,dg,x,q,mo,d,(Int.tmod (a7:Int) 4),0,0)))) (some (g',l,dg,x,q,mo,d,0,0,0))))=some (g',l,dg,x,q,mo,d,((mksT (bi mo d) a7 a8 a9).1:Int),((mksT (bi mo d) a7 a8 a9).2.1:Int),((mksT (bi mo d) a7 a8 a9).2.2:Int)):=by
  intro mo d _
  have hc:=ki mo d
  have:bi mo d=1\/bi mo d=2\/bi mo d=3:=by omega
  rw [cV,cV,cV,cV]
  rcases this with h | h | h<;>rw [h]<;>rfl
 unfold aF
 rw [e]
 simp only [ob,d4]
 rw [gR]
 by_cases hq:q=0
 ·rw [ae hq]
  rw [yy m _ _ _ _ _ a5 _ _ _ _ h5]
  have hml:=AF (show a5%40<40 by omega)
  show ∃g'_1 l_1 dg_1 x_1 q_1 mo_1 d,cond (!(monT (a5%40)==[])) _ _=_/\_
  by_cases hm0:monT (a5%40)=[]
  ·refine ⟨g',l,dg,x,q,[],[],?_,hY,hL,hnX,hd5,λh=>absurd hq h,λ_=>hm0.symm,.inl rfl⟩
   rw [hm0]
   exact tail [] [] none
  ·rw [aM.2 hm0]
   show ∃g'_1 l_1 dg_1 x_1 q_1 mo_1 d,ob (aK (m+300) g' l dg x q (monT (a5%40)) [] 0 0 0) _=_/\_
   rw [kI (m+300) (by omega)]
   show ∃g'_1 l_1 dg_1 x_1 q_1 mo_1 d,cond (sea (monT (a5%40))==0) _ _=_/\_
   rw [gR]
   by_cases hs:sea (monT (a5%40))=0
   ·rw [ae hs]
    have hin:=hml hs hm0
    rw [Dk m _ _ _ _ _ _ a6 _ _ _ (monT (a5%40)) hin h6]
    exact ⟨g',l,dg,x,q,monT (a5%40),dayT (a6%40) (monT (a5%40)),tail _ _ none,hY,hL,hnX,hd5,λh=>absurd hq h,λ_=>rfl,.inr ⟨hin,hm0,hs,rfl⟩⟩
   ·rw [ab hs]
    exact ⟨g',l,dg,x,q,monT (a5%40),[],tail _ [] none,hY,hL,hnX,hd5,λh=>absurd hq h,λ_=>rfl,.inl rfl⟩
 ·rw [ab hq]
  exact ⟨g',l,dg,x,q,[],[],tail [] [] none,hY,hL,hnX,hd5,λ_=>⟨rfl,rfl⟩,λh=>absurd h hq,.inl rfl⟩
theorem FD:((List.range 34).all λj=>!hasX (monT j))=true:=by decide +kernel
theorem FM:(((List.range 12).map λi=>two (i+1)).all λmo=>(List.range 32).all λj=>!hasX (dayT j mo))=true:=by decide +kernel
theorem NP:((((List.range 12).map λi=>two (i+1))++[[48,88],[49,88],[88,50],[88,88],[88,48],[88,57]]).all λmo=>hasX mo||decide (mo∈(List.range 12).map λi=>two (i+1)))=true:=by decide +kernel
theorem NT (m a0 a2 a3 a4 a5 a6 a7 a8 a9:Nat) (g:Bool) (h2:a2<65536) (h3:a3<256) (h4:a4<256) (h5:a5<256) (h6:a6<256) (hf:a0%6≠3) (hm:a5%40<=33) (hd:a6%40<=31):
  ∃g' l dg x q mo d k0 k1 k2,aF (m+300) (a0:Int) g (a2:Int) (a3:Int) (a4:Int) (a5:Int) (a6:Int) (a7:Int) (a8:Int) (a9:Int)=some (g',l,dg,x,q,mo,d,((k0:Nat):Int),((k1:Nat):Int),((k2:Nat):Int))/\
   0<=q/\chkF g' l dg x 0 mo d (k0:Int) (k1:Int) (k2:Int)=0/\exD dg mo d 0=true/\mo.length<=18/\d.length<=18/\dg.length<=100:=by
 obtain ⟨g',l,dg,x,q,mo,d,e,hY,hL,hnX,hd5,hq1,hq0,hday⟩:=Gn m a0 a2 a3 a4 a5 a6 a7 a8 a9 g h2 h3 h4 h5 h6
 have hX:=hnX hf
 have hmoX:hasX mo=false:=by
  by_cases h:q=0
  ·rw [hq0 h]
   have:=(cL.1 FD) (a5%40) (jg.2 (by omega))
   simpa using this
  ·rw [(hq1 h).1];rfl
 have hmo3:mo=[]\/0<sea mo\/(sea mo=0/\dH mo 12=true):=by
  by_cases h:q=0
  ·rw [hq0 h];exact IG (by omega)
  ·exact .inl (hq1 h).1
 have hdd:d=[]\/(mo≠[]/\sea mo=0/\dH d 31=true/\fitD mo d=true/\hasX d=false):=by
  rcases hday with h | ⟨hin,hm0,hs,hde⟩
  ·exact .inl h
  ·have a1:=GY (show a6%40<40 by omega) hin
   have a2:=DU (show a6%40<40 by omega) hin
   rw [<-hde] at a1 a2
   by_cases h0:d=[]
   ·exact .inl h0
   ·right
    refine ⟨hm0,hs,a1.resolve_left h0,a2.resolve_left h0,?_⟩
    have b1:=(cL.1 NP) mo hin
    rw [hmoX,tK,bY] at b1
    have b2:=(cL.1 ((cL.1 FM) mo b1)) (a6%40) (jg.2 (by omega))
    rw [hde]
    simpa using b2
 have hc:chkD g' l dg x 0 mo d ((mksT (bi mo d) a7 a8 a9).1:Int) ((mksT (bi mo d) a7 a8 a9).2.1:Int) ((mksT (bi mo d) a7 a8 a9).2.2:Int)=0:=
  AA (QK hY) hL (λh=>absurd h (by omega)) hmo3 (by
   rcases hdd with h | ⟨h1,h2,h3,_⟩
   ·exact .inl h
   ·exact .inr ⟨h1,h2,h3⟩) (wV _ _ _ _)
 refine ⟨g',l,dg,x,q,mo,d,_,_,_,e,Kt hY,DO hc ?_,?_,?_,?_,by omega⟩
 ·rcases hdd with h | ⟨_,_,_,h,_⟩
  ·exact .inl h
  ·exact .inr h
 ·unfold exD
  have:hasX d=false:=by
   rcases hdd with h | ⟨_,_,_,_,h⟩
   ·rw [h];rfl
   ·exact h
  rw [hX,hmoX,this];rfl
 ·rcases hmo3 with h | h | ⟨_,h⟩
  ·rw [h];simp
  ·have:=(B7 h).1;omega
  ·have:=(mF (by omega) h).1;omega
 ·rcases hdd with h | ⟨_,_,h,_⟩
  ·rw [h];simp
  ·have:=(mF (by omega) h).1;omega
theorem D4 (m a0 a2 a3 a4 a5 a6 a7 a8 a9:Nat) (g:Bool) (h0:a0<256) (h2:a2<65536) (h3:a3<256) (h4:a4<256) (h5:a5<256) (h6:a6<256):
  ∃g' l dg x mo d k0 k1 k2,bv (m+300) (a0:Int) g (a2:Int) (a3:Int) (a4:Int) (a5:Int) (a6:Int) (a7:Int) (a8:Int) (a9:Int)=some (g',l,dg,x,0,mo,d,((k0:Nat):Int),((k1:Nat):Int),((k2:Nat):Int))/\
   chkF g' l dg x 0 mo d (k0:Int) (k1:Int) (k2:Int)=0/\exD dg mo d 0=true/\mo.length<=18/\d.length<=18/\dg.length<=100:=by
 have t5:Int.tmod (a5:Int) 40=((a5%40:Nat):Int):=rfl
 have t6:Int.tmod (a6:Int) 40=((a6%40:Nat):Int):=rfl
 have t0:Int.tmod (a0:Int) 6=((a0%6:Nat):Int):=rfl
 have td:Int.tdiv ((a6%40:Nat):Int) 2=((a6%40 / 2:Nat):Int):=rfl
 have fin:∀(b0 b5 b6:Nat),b5<256->b6<256->b0%6≠3->b5%40<=33->b6%40<=31->
   ∃g' l dg x mo d k0 k1 k2,(ob (aF (m+300) (b0:Int) g (a2:Int) (a3:Int) (a4:Int) (b5:Int) (b6:Int) (a7:Int) (a8:Int) (a9:Int)) λr4606=>(cond (decide ((d4 r4606).1>0)) (some (r4606.1,r4606.2.1,r4606.2.2.1,r4606.2.2.2.1,(0:Int),(d4 r4606).2.1,(d4 r4606).2.2.1,(d4 r4606).2.2.2.1,(d8 r4606).1,(d8 r4606).2)) (some (r4606.1,r4606.2.1,r4606.2.2.1,r4606.2.2.2.1,(d4 r4606).1,(d4 r4606).2.1,(d4 r4606).2.2.1,(d4 r4606).2.2.2.1,(d8 r4606).1,(d8 r4606).2))))=some (g',l,dg,x,0,mo,d,((k0:Nat):Int),((k1:Nat):Int),((k2:Nat):Int))/\
   chkF g' l dg x 0 mo d (k0:Int) (k1:Int) (k2:Int)=0/\exD dg mo d 0=true/\mo.length<=18/\d.length<=18/\dg.length<=100:=by
  intro b0 b5 b6 c5 c6 c0 cm cd
  obtain ⟨g',l,dg,x,q,mo,d,k0,k1,k2,e,hq,r1,r2,r3,r4,r5⟩:=NT m b0 a2 a3 a4 b5 b6 a7 a8 a9 g h2 h3 h4 c5 c6 c0 cm cd
  refine ⟨g',l,dg,x,mo,d,k0,k1,k2,?_,r1,r2,r3,r4,r5⟩
  rw [e]
  simp only [ob,d4,d8]
  by_cases h:q>0
  ·rw [ar h];rfl
  ·obtain rfl:q=0:=by omega
   rw [au h];rfl
 have w5:33<a5%40->IntKind.wrap .u8 (((a5%40:Nat):Int) - 33)=((a5%40 - 33:Nat):Int):=λh=>by rw [fN _ (by omega) (by omega)];omega
 have w6:IntKind.wrap .u8 ((a6%40 / 2:Nat):Int)=((a6%40 / 2:Nat):Int):=fN _ (by omega) (by omega)
 unfold bv
 rw [t0,t5,t6,td,w6]
 have four:∀b0:Nat,b0%6≠3->∀K:Nat->Nat->Option (Bool×Bool×aa×Int×Int×aa×aa×Int×Int×Int),
   (∀b5 b6:Nat,b5<256->b6<256->b5%40<=33->b6%40<=31->∃g' l dg x mo d k0 k1 k2,K b5 b6=some (g',l,dg,x,0,mo,d,((k0:Nat):Int),((k1:Nat):Int),((k2:Nat):Int))/\chkF g' l dg x 0 mo d (k0:Int) (k1:Int) (k2:Int)=0/\exD dg mo d 0=true/\mo.length<=18/\d.length<=18/\dg.length<=100)->
   ∃g' l dg x mo d k0 k1 k2,(cond (decide (((a5%40:Nat):Int)>33)) (cond (decide (((a6%40:Nat):Int)>31)) (K (a5%40 - 33) (a6%40 / 2)) (K (a5%40 - 33) a6)) (cond (decide (((a6%40:Nat):Int)>31)) (K a5 (a6%40 / 2)) (K a5 a6)))=some (g',l,dg,x,0,mo,d,((k0:Nat):Int),((k1:Nat):Int),((k2:Nat):Int))/\chkF g' l dg x 0 mo d (k0:Int) (k1:Int) (k2:Int)=0/\exD dg mo d 0=true/\mo.length<=18/\d.length<=18/\dg.length<=100:=by
  intro b0 hb0 K hK
  by_cases h5':33<a5%40
  ·rw [ar (show ((a5%40:Nat):Int)>33 by omega)]
   by_cases h6':31<a6%40
   ·rw [ar (show ((a6%40:Nat):Int)>31 by omega)]
    exact hK _ _ (by omega) (by omega) (by omega) (by omega)
   ·rw [au (show ¬((a6%40:Nat):Int)>31 by omega)]
    exact hK _ _ (by omega) (by omega) (by omega) (by omega)
  ·rw [au (show ¬((a5%40:Nat):Int)>33 by omega)]
   by_cases h6':31<a6%40
   ·rw [ar (show ((a6%40:Nat):Int)>31 by omega)]
    exact hK _ _ (by omega) (by omega) (by omega) (by omega)
   ·rw [au (show ¬((a6%40:Nat):Int)>31 by omega)]
    exact hK _ _ (by omega) (by omega) (by omega) (by omega)
 have w5':∀{A:Type} (F:Int->Int->Option A) (b6:Nat),(cond (decide (((a5%40:Nat):Int)>33)) (F (IntKind.wrap .u8 (((a5%40:Nat):Int) - 33)) (b6:Int)) (F (a5:Int) (b6:Int)))=(cond (decide (((a5%40:Nat):Int)>33)) (F ((a5%40 - 33:Nat):Int) (b6:Int)) (F (a5:Int) (b6:Int))):=by
  intro A F b6
  by_cases h:33<a5%40
  ·rw [w5 h]
  ·rw [au (show ¬((a5%40:Nat):Int)>33 by omega)];rfl
 have w5c:33<a5%40\/¬33<a5%40:=by omega
 by_cases c3:a0%6=3
 ·rw [show (((a0%6:Nat):Int)==3)=true by rw [c3];rfl]
  simp only [aj]
  rcases w5c with h | h
  ·rw [w5 h];exact four 0 (by omega) (λb5 b6=>_) (λb5 b6 c5 c6 cm cd=>fin 0 b5 b6 c5 c6 (by omega) cm cd)
  ·have hx:=four 0 (by omega) (λb5 b6=>_) (λb5 b6 c5 c6 cm cd=>fin 0 b5 b6 c5 c6 (by omega) cm cd)
   rw [au (show ¬((a5%40:Nat):Int)>33 by omega)] at hx ⊢
   exact hx
 ·rw [show (((a0%6:Nat):Int)==3)=false from aM.2 (by omega)]
  simp only [af]
  by_cases c4:a0%6=4
  ·rw [show (((a0%6:Nat):Int)==4)=true by rw [c4];rfl]
   simp only [aj]
   rcases w5c with h | h
   ·rw [w5 h];exact four 0 (by omega) (λb5 b6=>_) (λb5 b6 c5 c6 cm cd=>fin 0 b5 b6 c5 c6 (by omega) cm cd)
   ·have hx:=four 0 (by omega) (λb5 b6=>_) (λb5 b6 c5 c6 cm cd=>fin 0 b5 b6 c5 c6 (by omega) cm cd)
    rw [au (show ¬((a5%40:Nat):Int)>33 by omega)] at hx ⊢
    exact hx
  ·rw [show (((a0%6:Nat):Int)==4)=false from aM.2 (by omega)]
   simp only [af]
   rcases w5c with h | h
   ·rw [w5 h];exact four a0 c3 (λb5 b6=>_) (λb5 b6 c5 c6 cm cd=>fin a0 b5 b6 c5 c6 c3 cm cd)
   ·have hx:=four a0 c3 (λb5 b6=>_) (λb5 b6 c5 c6 cm cd=>fin a0 b5 b6 c5 c6 c3 cm cd)
    rw [au (show ¬((a5%40:Nat):Int)>33 by omega)] at hx ⊢
    exact hx
theorem I3 {dg m d:aa} (h:exD dg m d 0=true):exD dg m [] 0=true/\exD dg [] [] 0=true:=by
 unfold exD at h ⊢
 simp only [az,kx,qO] at h
 obtain ⟨⟨h1,h2,h3⟩,_⟩:=h
 rw [h1,h2]
 exact ⟨rfl,rfl⟩
def BU (g l:Bool) (dg:aa) (x q:Int) (m d:aa) (k0 k1 k2:Int):Bool:=
 (((g==false)&&((l==false)&&((dg==([]:aa))&&((x==0)&&((q==0)&&true)))))&&((m==([]:aa))&&((d==([]:aa))&&(((k0==0)&&((k1==0)&&((k2==0)&&true)))&&true))))
noncomputable def chkB (K:Int) (g l:Bool) (dg:aa) (x q:Int) (m d:aa) (k0 k1 k2:Int):Int:=
 if K=1 then (if chkF g l dg x q m d k0 k1 k2=0 then (if exD dg m d q=true then 0 else 11) else chkF g l dg x q m d k0 k1 k2) else if K=2\/K=3 then (if BU g l dg x q m d k0 k1 k2=true then 0 else 5) else 18
def FJ (e1 e2 K1 K2 lo hi:Int):Int:=if e1≠0 then e1 else if e2≠0 then e2 else if K1≠1/\K2≠1 then 11 else if K1≠1\/K2≠1 then 0 else if lo>hi then 11 else 0
section
variable {K:Int} {g l:Bool} {dg:List UInt8} {x q:Int} {m d:List UInt8} {k0 k1 k2:Int} (hml:m.length<=18) (hdl:dg.length<=100) (hd18:d.length<=18) (h0:0<=k0) (h1:0<=k1) (h2:0<=k2)
include hml hdl hd18 h0 h1 h2
theorem EM:ly 20000000 K g l dg x q m d k0 k1 k2=some (chkB K g l dg x q m d k0 k1 k2):=by
 unfold ly chkB
 rw [uA hml hdl h0 h1 h2,Eh 20000000 g l dg x q m d k0 k1 k2 (by omega) (by omega) (by omega)]
 simp only [ob]
 by_cases k1':K=1
 ·subst k1'
  rw [ae rfl]
  simp only [BEq.rfl,aj]
  by_cases hc:chkF g l dg x q m d k0 k1 k2=0
  ·rw [ae hc,hc]
   by_cases he:exD dg m d q=true
   ·rw [ae he,he];rfl
   ·rw [ab he]
    rw [ET] at he
    rw [he];rfl
  ·rw [ab hc,bne0 hc];rfl
 ·rw [ab k1',aM.2 k1']
  simp only [af]
  have hn:(!(((g==false)&&((l==false)&&((dg==([]:aa))&&((x==0)&&((q==0)&&true)))))&&((m==([]:aa))&&((d==([]:aa))&&(((k0==0)&&((k1==0)&&((k2==0)&&true)))&&true)))))=!(BU g l dg x q m d k0 k1 k2):=rfl
  rw [hn]
  by_cases k2':K=2
  ·subst k2'
   rw [ae (.inl rfl)]
   cases BU g l dg x q m d k0 k1 k2<;>rfl
  ·rw [aM.2 k2']
   by_cases k3':K=3
   ·subst k3'
    rw [ae (.inr rfl)]
    cases BU g l dg x q m d k0 k1 k2<;>rfl
   ·rw [aM.2 k3',ab (by omega)];rfl
theorem wq:eC 20000000 K g l dg x q m d k0 k1 k2=some (chkB K g l dg x q m d k0 k1 k2):=by
 unfold eC chkB
 rw [wH hdl h0 h1 h2,An 20000000 g l dg x q m d k0 k1 k2 (by omega) (by omega) (by omega) (by omega)]
 simp only [ob]
 by_cases k1':K=1
 ·subst k1'
  rw [ae rfl]
  simp only [BEq.rfl,aj]
  by_cases hc:chkF g l dg x q m d k0 k1 k2=0
  ·rw [ae hc,hc]
   by_cases he:exD dg m d q=true
   ·rw [ae he,ae he];rfl
   ·rw [ab he,ab he];rfl
  ·rw [ab hc,aM.2 hc];rfl
 ·rw [ab k1',aM.2 k1']
  simp only [af]
  have hn:(!(((g==false)&&((l==false)&&((dg==([]:aa))&&((x==0)&&((q==0)&&true)))))&&((m==([]:aa))&&((d==([]:aa))&&(((k0==0)&&((k1==0)&&((k2==0)&&true)))&&true)))))=!(BU g l dg x q m d k0 k1 k2):=rfl
  rw [hn]
  by_cases k2':K=2
  ·subst k2'
   rw [ae (.inl rfl)]
   cases BU g l dg x q m d k0 k1 k2<;>rfl
  ·rw [aM.2 k2']
   by_cases k3':K=3
   ·subst k3'
    rw [ae (.inr rfl)]
    cases BU g l dg x q m d k0 k1 k2<;>rfl
   ·rw [aM.2 k3',ab (by omega)];rfl
theorem uv (hc:chkB K g l dg x q m d k0 k1 k2=0) (hk:K=1):chkF g l dg x q m d k0 k1 k2=0/\exD dg m d q=true:=by
 have _u:=And.intro hml (And.intro hdl (And.intro hd18 (And.intro h0 (And.intro h1 h2))))
 unfold chkB at hc
 rw [ae hk] at hc
 by_cases h:chkF g l dg x q m d k0 k1 k2=0
 ·rw [ae h] at hc
  by_cases he:exD dg m d q=true
  ·exact ⟨h,he⟩
  ·rw [ab he] at hc;cases hc
 ·rw [ab h] at hc;exact absurd hc h
end
theorem Rn (n:Nat) (a b:Int):iZ n a b=some (if a<b then -1 else if a>b then 1 else 0):=by
 unfold iZ kj
 simp only [ob,fp,af]
 by_cases h:a<b
 ·rw [ar h,ae h];rfl
 ·rw [au h,ab h]
  by_cases h2:a>b
  ·rw [ar h2,ae h2];rfl
  ·rw [au h2,ab h2];rfl
theorem E3 (a b:Int):∃r,jL 20000000 0 a 0 b=some r/\decide (r>0)=decide (a>b):=by
 have e8:lS 20000000 0 0=some 0:=rfl
 have o1:nR 20000000 [0,-1]=some (-1):=by kernel_rfl
 have o2:nR 20000000 [0,1]=some 1:=by kernel_rfl
 have o3:nR 20000000 [0,0]=some 0:=by kernel_rfl
 unfold jL
 rw [e8,Rn]
 simp only [ob]
 by_cases h:a<b
 ·rw [ae h,o1]
  exact ⟨_,rfl,by rw [au (show ¬a>b by omega)];rfl⟩
 ·rw [ab h]
  by_cases h2:a>b
  ·rw [ae h2,o2]
   exact ⟨_,rfl,by rw [ar h2];rfl⟩
  ·rw [ab h2,o3]
   exact ⟨_,rfl,by rw [au h2];rfl⟩
theorem bne1 {K:Int} (h:K≠1):(K != 1)=true:=by simp [h]
section
variable {K:Int} {g l:Bool} {dg:List UInt8} {x q:Int} {m d:List UInt8} {k0 k1 k2:Int} {K':Int} {g' l':Bool} {dg':List UInt8} {x' q':Int} {m' d':List UInt8} {p0 p1 p2:Int} (hml:m.length<=18) (hdl:dg.length<=100) (hd18:d.length<=18) (h0:0<=k0) (h1:0<=k1) (h2:0<=k2) (hml':m'.length<=18) (hdl':dg'.length<=100) (hd18':d'.length<=18) (h0':0<=p0) (h1':0<=p1) (h2':0<=p2)
include hml hdl hd18 h0 h1 h2 hml' hdl' hd18' h0' h1' h2'
theorem Nz:kP 20000000 K g l dg x q m d k0 k1 k2 K' g' l' dg' x' q' m' d' p0 p1 p2=some (FJ (chkB K g l dg x q m d k0 k1 k2) (chkB K' g' l' dg' x' q' m' d' p0 p1 p2) K K' (ng g dg x m d).1 (ng g' dg' x' m' d').2):=by
 unfold kP FJ
 rw [EM hml hdl hd18 h0 h1 h2,EM hml' hdl' hd18' h0' h1' h2']
 simp only [ob]
 by_cases c1:chkB K g l dg x q m d k0 k1 k2=0
 ·rw [ab (by omega),c1]
  by_cases c2:chkB K' g' l' dg' x' q' m' d' p0 p1 p2=0
  ·rw [ab (by omega),c2]
   simp only [fp,af]
   by_cases e1:K=1
   ·rw [show (K != 1)=false by rw [e1];rfl]
    simp only [af]
    by_cases e2:K'=1
    ·rw [show (K' != 1)=false by rw [e2];rfl,ab (by omega),ab (by omega)]
     simp only [af]
     obtain ⟨f1,g1⟩:=uv hml hdl hd18 h0 h1 h2 c1 e1
     obtain ⟨f2,g2⟩:=uv hml' hdl' hd18' h0' h1' h2' c2 e2
     rw [B9 hml hdl hd18 h0 h1 h2,B9 hml' hdl' hd18' h0' h1' h2',ae f1,ae g1,ae f2,ae g2]
     simp only [ob]
     obtain ⟨r,r1,r2⟩:=E3 (ng g dg x m d).1 (ng g' dg' x' m' d').2
     rw [r1]
     simp only [r2]
     by_cases h:(ng g dg x m d).1>(ng g' dg' x' m' d').2
     ·rw [ar h,ae h];rfl
     ·rw [au h,ab h];rfl
    ·rw [bne1 e2,ab (by omega),ae (by omega)];rfl
   ·rw [bne1 e1]
    by_cases e2:K'=1
    ·rw [show (K' != 1)=false by rw [e2];rfl,ab (by omega),ae (by omega)];rfl
    ·rw [bne1 e2,ae (by omega)];rfl
  ·rw [ae c2,bne0 c2];rfl
 ·rw [ae c1,bne0 c1];rfl
theorem JM:fc 20000000 K g l dg x q m d k0 k1 k2 K' g' l' dg' x' q' m' d' p0 p1 p2=some (FJ (chkB K g l dg x q m d k0 k1 k2) (chkB K' g' l' dg' x' q' m' d' p0 p1 p2) K K' (ng g dg x m d).1 (ng g' dg' x' m' d').2):=by
 unfold fc FJ
 rw [wq hml hdl hd18 h0 h1 h2,wq hml' hdl' hd18' h0' h1' h2']
 simp only [ob]
 by_cases c1:chkB K g l dg x q m d k0 k1 k2=0
 ·rw [ab (by omega),c1]
  by_cases c2:chkB K' g' l' dg' x' q' m' d' p0 p1 p2=0
  ·rw [ab (by omega),c2]
   simp only [fp,af]
   by_cases e1:K=1
   ·rw [show (K != 1)=false by rw [e1];rfl,show (K==1)=true by rw [e1];rfl]
    simp only [af,aj]
    by_cases e2:K'=1
    ·rw [show (K'==1)=true by rw [e2];rfl,ab (by omega),ab (by omega)]
     simp only [aj]
     obtain ⟨f1,g1⟩:=uv hml hdl hd18 h0 h1 h2 c1 e1
     obtain ⟨f2,g2⟩:=uv hml' hdl' hd18' h0' h1' h2' c2 e2
     obtain ⟨rfl,E1⟩:=ug f1 g1
     obtain ⟨rfl,E2⟩:=ug f2 g2
     rw [tv E1 hdl,tv E2 hdl']
     simp only [ob]
     by_cases h:(ng g dg x m d).1>(ng g' dg' x' m' d').2
     ·rw [ar h,ae h];rfl
     ·rw [au h,ab h];rfl
    ·rw [aM.2 e2,ab (by omega),ae (by omega)];rfl
   ·rw [bne1 e1,aM.2 e1]
    by_cases e2:K'=1
    ·rw [show (K' != 1)=false by rw [e2];rfl,ab (by omega),ae (by omega)];rfl
    ·rw [bne1 e2,ae (by omega)];rfl
  ·rw [ae c2,bne0 c2];rfl
 ·rw [ae c1,bne0 c1];rfl
end
theorem Ao (y:Int) {m:Nat} (h1:1<=m) (h2:m<=23):dayM y m<dayM y (m+1):=by
 by_cases h:m<=12
 ·have:=vE y h1 h
  have:=iR y (m:Int)
  omega
 ·have e1:=si y (m:=m - 12) (by omega) (by omega)
  have e2:=si y (m:=m - 12+1) (by omega) (by omega)
  have e3:=vE (y+1) (m:=m - 12) (by omega) (by omega)
  have:=iR (y+1) ((m - 12:Nat):Int)
  rw [show m - 12+12=m by omega] at e1
  rw [show m - 12+1+12=m+1 by omega] at e2
  omega
theorem Gy (y:Int) {a:Nat} (h1:1<=a):∀c,1<=c->a+c<=24->dayM y a<dayM y (a+c)
 | 0,h,_=>absurd h (by omega)
 | c+1,_,h2=>by
  have hs:=Ao y (m:=a+c) (by omega) (by omega)
  by_cases h:c=0
  ·subst h;exact hs
  ·have:=Gy y h1 c (by omega) (by omega)
   rw [show a+(c+1)=a+c+1 by omega]
   omega
theorem Mt {g l:Bool} {dg:aa} {x:Int} {m d:aa} (E:Exact g l dg x m d):(ng g dg x m d).1<=(ng g dg x m d).2:=by
 unfold ng
 by_cases hm:m=[]
 ·rw [ae hm]
  have:=wP (yOf g dg x)
  simp only []
  split at this<;>omega
 ·rw [ab hm]
  by_cases hs:0<sea m
  ·rw [ae hs]
   rcases E.mon with h | ⟨j,hj,e,_⟩ | ⟨h,_⟩
   ·exact absurd h hm
   ·obtain ⟨f,c,_,a1,a2,a3,a4,_,a6,a7⟩:=CJ hj
    rw [e,a6,a7]
    have:=Gy (yOf g dg x) a1 c (by omega) (by omega)
    simp only []
    omega
   ·omega
  ·rw [ab hs]
   rcases E.mon with h | ⟨j,hj,e,_⟩ | ⟨_,a1,a2,_⟩
   ·exact absurd h hm
   ·rw [e,ka hj] at hs;omega
   ·by_cases hd:d=[]
    ·rw [ae hd]
     have:=Ao (yOf g dg x) a1 (by omega)
     simp only []
     omega
    ·rw [ab hd]
     exact sD _
theorem B_of (m a0 a1 a3 a4 a5 a6 a7 a8 a9 a10:Nat) (g:Bool) (h1:a1<256) (h3:a3<65536) (h4:a4<256) (h5:a5<256) (h6:a6<256) (h7:a7<256):
  ∃K g' l dg x mo d k0 k1 k2,ca (m+300) (a0:Int) (a1:Int) g (a3:Int) (a4:Int) (a5:Int) (a6:Int) (a7:Int) (a8:Int) (a9:Int) (a10:Int)=some (K,g',l,dg,x,0,mo,d,((k0:Nat):Int),((k1:Nat):Int),((k2:Nat):Int))/\
   chkB K g' l dg x 0 mo d (k0:Int) (k1:Int) (k2:Int)=0/\mo.length<=18/\d.length<=18/\dg.length<=100/\(K=1\/((K=2\/K=3)/\g'=false/\l=false/\dg=[]/\x=0/\mo=[]/\d=[]/\k0=0/\k1=0/\k2=0)):=by
 have t0:Int.tmod (a0:Int) 6=((a0%6:Nat):Int):=rfl
 unfold ca
 rw [t0]
 by_cases c0:a0%6=0
 ·rw [c0]
  exact ⟨2,false,false,[],0,[],[],0,0,0,rfl,rfl,by simp,by simp,by simp,.inr ⟨.inl rfl,rfl,rfl,rfl,rfl,rfl,rfl,rfl,rfl,rfl⟩⟩
 ·rw [show (((a0%6:Nat):Int)==0)=false from aM.2 (by omega)]
  by_cases c1:a0%6=1
  ·rw [c1]
   exact ⟨3,false,false,[],0,[],[],0,0,0,rfl,rfl,by simp,by simp,by simp,.inr ⟨.inr rfl,rfl,rfl,rfl,rfl,rfl,rfl,rfl,rfl,rfl⟩⟩
  ·rw [show (((a0%6:Nat):Int)==1)=false from aM.2 (by omega)]
   obtain ⟨g',l,dg,x,mo,d,k0,k1,k2,e,hc,he,hml,hd18,hdl⟩:=D4 m a1 a3 a4 a5 a6 a7 a8 a9 a10 g h1 h3 h4 h5 h6 h7
   refine ⟨1,g',l,dg,x,mo,d,k0,k1,k2,?_,?_,hml,hd18,hdl,.inl rfl⟩
   ·simp only [af]
    rw [e];rfl
   ·unfold chkB
    rw [ae rfl,ae hc,ae he]
def plR (r:DR):Nat:=r.2.2.2.2.2.2.2.2.1.1
def enR (r:DR):Nat:=r.2.2.2.2.2.2.2.2.2
theorem FR {l:aa} {b:UInt8} (h:l.take 2=[b,b]):∃r,l=b::b::r:=by
 match l,h with
 | a::c::r,h=>simp at h;exact ⟨r,by rw [h.1,h.2]⟩
theorem Kz {S:aa} {a:Nat} (h:a<=S.length) {r:DR} (hr:jU S a=.inr r):tS S a=.inr r/\chkR r=0:=by
 unfold jU at hr
 cases hd:tS S a with
 | inl k=>rw [hd] at hr;cases hr
 | inr r'=>
  rw [hd] at hr
  simp only [] at hr
  by_cases hc:chkR r'=0
  ·rw [ae hc] at hr
   obtain rfl:=Sum.inr.inj hr
   exact ⟨rfl,hc⟩
  ·rw [ab hc] at hr;cases hr
theorem BK {S:aa} {a:Nat} (h:a<=S.length) {k E p:Nat} (hr:jU S a=.inl (k,E,p)):E≠0:=by
 unfold jU at hr
 cases hd:tS S a with
 | inl k'=>rw [hd] at hr;simp only [] at hr;have:=Sum.inl.inj hr;simp at this;omega
 | inr r'=>
  rw [hd] at hr
  simp only [] at hr
  by_cases hc:chkR r'=0
  ·rw [ae hc] at hr;cases hr
  ·rw [ab hc] at hr
   have:=Sum.inl.inj hr
   simp at this
   omega
def smT (x:TD):Prop:=x.2.2.2.2.2.1.length<=18/\x.2.2.1.length<=100/\x.2.2.2.2.2.2.1.length<=18/\0<=x.2.2.2.2.2.2.2.1/\0<=x.2.2.2.2.2.2.2.2.1/\0<=x.2.2.2.2.2.2.2.2.2
noncomputable def cF (x:TD):Int:=chkF x.1 x.2.1 x.2.2.1 x.2.2.2.1 x.2.2.2.2.1 x.2.2.2.2.2.1 x.2.2.2.2.2.2.1 x.2.2.2.2.2.2.2.1 x.2.2.2.2.2.2.2.2.1 x.2.2.2.2.2.2.2.2.2
def exT (x:TD):Bool:=exD x.2.2.1 x.2.2.2.2.2.1 x.2.2.2.2.2.2.1 x.2.2.2.2.1
def dyT (x:TD):Int×Int:=ng x.1 x.2.2.1 x.2.2.2.1 x.2.2.2.2.2.1 x.2.2.2.2.2.2.1
def seT (x:TD):Int:=sea x.2.2.2.2.2.1
def coT (x:TD):Nat:=bi x.2.2.2.2.2.1 x.2.2.2.2.2.2.1
noncomputable def plT (x:TD):Bool:=decide (cF x=0)&&(exT x&&!decide (0<seT x))
theorem tn:smT d0:=by unfold smT;simp
theorem fcT {x:TD} (h:smT x):ap10 (bu 20000000) x=some (cF x):=uA h.1 h.2.1 h.2.2.2.1 h.2.2.2.2.1 h.2.2.2.2.2
theorem rcT {x:TD} (h:smT x):ap10 (cb 20000000) x=some (cF x):=wH h.2.1 h.2.2.2.1 h.2.2.2.2.1 h.2.2.2.2.2
theorem reT {x:TD} (h:smT x):ap10 (bh 20000000) x=some (if exT x then 1 else 0):=by
 obtain ⟨a,b,c,_⟩:=h
 exact An 20000000 _ _ _ _ _ _ _ _ _ _ (by omega) (by omega) (by omega) (by omega)
theorem rsT (x:TD):ap10 (aK 20000000) x=some (seT x):=kI 20000000 (by omega) _ _ _ _ _ _ _ _ _ _
theorem rcoT (x:TD):ap10 (ak 20000000) x=some ((coT x:Nat):Int):=cV 20000000 _ _ _ _ _ _ _ _ _ _
theorem fpT {x:TD} (h:smT x):ap10 (aZ 20000000) x=some (if x.2.2.2.2.2.2.1=[] then (if 0<seT x then 0 else if x.2.2.2.2.2.1=[] then 1 else 2) else 3):=Hb 20000000 _ _ _ _ _ _ _ _ _ _ h.1
theorem fmT {x:TD} (h:smT x):ap10 (fw 20000000) x=some (hasX x.2.2.1||(hasX x.2.2.2.2.2.1||hasX x.2.2.2.2.2.2.1)):=by
 obtain ⟨a,b,c,_⟩:=h
 exact AY 20000000 _ _ _ _ _ _ _ _ _ _ (by omega) (by omega) (by omega)
theorem fdT {x:TD} (h:smT x):ap10 (fH 20000000) x=some (if cF x=0 then (if exT x=true then (0,(dyT x).1,0,(dyT x).2,0) else (0,0,0,0,1)) else (0,0,0,0,cF x)):=B9 h.1 h.2.1 h.2.2.1 h.2.2.2.1 h.2.2.2.2.1 h.2.2.2.2.2
theorem GD {x:TD} (hc:cF x=0) (he:exT x=true):x.2.2.2.2.1=0/\Exact x.1 x.2.1 x.2.2.1 x.2.2.2.1 x.2.2.2.2.2.1 x.2.2.2.2.2.2.1:=ug hc he
theorem rdT {x:TD} (h:smT x) (hc:cF x=0) (he:exT x=true):ap10 (aT 20000000) x=some (dyT x):=by
 obtain ⟨h0,E⟩:=GD hc he
 have:=tv (k0:=x.2.2.2.2.2.2.2.1) (k1:=x.2.2.2.2.2.2.2.2.1) (k2:=x.2.2.2.2.2.2.2.2.2) E h.2.1
 rw [<-h0] at this
 exact this
theorem LN {x:TD} (hc:cF x=0) (he:exT x=true):(dyT x).1<=(dyT x).2:=Mt (GD hc he).2
theorem rl {x:TD} (hc:cF x=0):(x.2.2.2.2.2.1=[]\/x.2.2.2.2.2.1.length=2)/\(x.2.2.2.2.2.2.1=[]\/x.2.2.2.2.2.2.1.length=2)/\(x.2.2.2.2.2.2.1≠[]->x.2.2.2.2.2.1≠[]/\seT x=0):=by
 obtain ⟨_,a,b,_,c⟩:=nM (oq hc)
 exact ⟨a,b,c⟩
theorem ku {x y:TD}:eqD x y=true↔x=y:=by
 obtain ⟨a1,a2,a3,a4,a5,a6,a7,a8,a9,a10⟩:=x
 obtain ⟨b1,b2,b3,b4,b5,b6,b7,b8,b9,b10⟩:=y
 simp [and_assoc]
theorem En {x:TD} (h:smT x):m8 20000000 x=some (exT x):=by
 unfold m8
 rw [fmT h]
 simp only [ob,exT,exD]
 cases (hasX x.2.2.1||(hasX x.2.2.2.2.2.1||hasX x.2.2.2.2.2.2.1))<;>rfl
theorem yJ {x:TD} (h:smT x):kT 20000000 x=some (plT x):=by
 unfold kT plT
 rw [fcT h,En h,fpT h]
 simp only [ob]
 by_cases hc:cF x=0
 ·rw [hc]
  cases he:exT x
  ·rfl
  ·show some ((if _ then _ else _) != (0:Int))=some (true&&(true&&!decide (0<seT x)))
   obtain ⟨_,_,h3⟩:=rl hc
   by_cases hd:x.2.2.2.2.2.2.1=[]
   ·rw [ae hd]
    by_cases hs:0<seT x
    ·rw [ae hs,ar hs];rfl
    ·rw [ab hs,au hs]
     by_cases hm:x.2.2.2.2.2.1=[]
     ·rw [ae hm];rfl
     ·rw [ab hm];rfl
   ·rw [ab hd,(h3 hd).2];rfl
 ·rw [au hc,show (cF x==0)=false from by simp [hc]];rfl
theorem qU {x:TD} (h:smT x):bg 20000000 x=some (if plT x then 1 else 0):=by
 unfold bg plT
 rw [rcT h,reT h,rsT x]
 simp only [ob]
 by_cases hc:cF x=0
 ·rw [hc]
  cases he:exT x
  ·rfl
  ·by_cases hs:0<seT x
   ·have h2:decide (seT x>0)=true:=ar hs
    rw [ar hs];rfl
   ·have h2:decide (seT x>0)=false:=au hs
    rw [au hs];rfl
 ·rw [au hc,show (cF x != 0)=true from by simp [hc]];rfl
theorem ko {x:TD}:plT x=true↔cF x=0/\exT x=true/\¬0<seT x:=by
 unfold plT
 simp [and_assoc]
noncomputable def ordB (x y:TD):Bool:=(plT x&&plT y)&&(decide (coT x=coT y)&&decide ((dyT x).1<=(dyT y).1))
theorem xw {x:TD} (hc:cF x=0) (hs:¬0<seT x):(if x.2.2.2.2.2.2.1=[] then (if 0<seT x then (0:Int) else if x.2.2.2.2.2.1=[] then 1 else 2) else 3)=((coT x:Nat):Int):=by
 obtain ⟨_,_,h3⟩:=rl hc
 unfold coT bi
 by_cases hd:x.2.2.2.2.2.2.1=[]
 ·rw [ae hd,ab hs]
  by_cases hm:x.2.2.2.2.2.1=[]
  ·simp [hm,hd]
  ·simp [hm,hd]
 ·have hm:=(h3 hd).1
  simp [hd,hm]
theorem F0 {x y:TD} (hx:smT x) (hy:smT y):mB 20000000 x y=some (ordB x y):=by
 unfold mB ordB
 rw [yJ hx,yJ hy]
 cases px:plT x
 ·rfl
 cases py:plT y
 ·rfl
 obtain ⟨c1,e1,s1⟩:=ko.1 px
 obtain ⟨c2,e2,s2⟩:=ko.1 py
 rw [fpT hx,fpT hy,fdT hx,fdT hy,xw c1 s1,xw c2 s2,ae c1,ae c2,ae e1,ae e2]
 simp only [ob,u5,u4,u3,u2,dI,af,H6,mJ]
 by_cases hcc:coT x=coT y
 ·rw [hcc,ar rfl]
  obtain ⟨r,q1,q2⟩:=E3 (dyT x).1 (dyT y).1
  simp only [fp,af,q1,mJ]
  refine dP some ?_
  have:decide (r<=0)=!decide (r>0):=by
   by_cases hr:r<=0
   ·rw [ar hr,au (by omega)];rfl
   ·rw [au hr,ar (by omega)];rfl
  rw [this,q2]
  by_cases hd:(dyT x).1<=(dyT y).1
  ·rw [ar hd,au (by omega)];rfl
  ·rw [au hd,ar (by omega)];rfl
 ·have:(((coT x:Nat):Int) != ((coT y:Nat):Int))=true:=by simp;omega
  rw [this,au hcc];rfl
noncomputable def itE (x:TD) (r:Bool) (y:TD) (all:Bool):Int:=
 if cF x≠0 then cF x else if r=true/\cF y≠0 then cF y else if r=false/\eqD y d0=false then 5 else if r=true/\ordB x y=false then 10 else if all=true/\exT x=false then 10 else 0
theorem BE {x y:TD} (r:Bool) (hx:smT x) (hy:smT y) (K:Int) (hc:cF x=0) (hcy:¬(r=true/\cF y≠0)):dY 20000000 5 10 10 x r y K=some (itE x r y (K==4)):=by
 unfold dY pQ qb pT itE
 rw [F0 hx hy,En hx,ab (by simpa using hc),ab hcy]
 cases r
 ·generalize eqD y d0=z
  cases z
  ·rfl
  ·cases (K==4)
   ·rfl
   ·cases exT x<;>rfl
 ·simp only [ob,dI,af,aj,reduceCtorEq,vc,aD,jb]
  cases ordB x y
  ·rfl
  ·simp only [dI,af,Bool.true_eq_false,aD]
   cases (K==4)
   ·rfl
   ·cases exT x<;>rfl
theorem CG {x y:TD} (r:Bool) (hx:smT x) (hy:smT y) (K:Int):fv 20000000 x r y K=some (if K=3\/K=4 then itE x r y (K==4) else 18):=by
 have main:(ob (ap10 (bu 20000000) x) λv0=>(cond (v0 != 0) (some v0) (cond r (ob (ap10 (bu 20000000) y) λv1=>(cond (v1 != 0) (some v1) (ob (dY 20000000 5 10 10 x r y K) λv2=>(some v2)))) (ob (dY 20000000 5 10 10 x r y K) λv3=>(some v3)))))=some (itE x r y (K==4)):=by
  rw [fcT hx]
  simp only [ob]
  by_cases hc:cF x=0
  ·rw [show (cF x != 0)=false from by simp [hc],af]
   cases r
   ·rw [BE false hx hy K hc (by simp)];rfl
   ·rw [aj,fcT hy]
    simp only
    by_cases hcy:cF y=0
    ·rw [show (cF y != 0)=false from by simp [hcy],af,BE true hx hy K hc (by simp [hcy])]
    ·rw [show (cF y != 0)=true from by simp [hcy],aj]
     unfold itE
     rw [ab (by simpa using hc),ae ⟨rfl,hcy⟩]
  ·rw [show (cF x != 0)=true from by simp [hc],aj]
   unfold itE
   rw [ae hc]
 unfold fv
 by_cases h3:K=3
 ·subst h3;exact main.trans (by rfl)
 ·rw [show (K != 3)=true from by simp [h3],aj]
  by_cases h4:K=4
  ·subst h4;exact main.trans (by rfl)
  ·rw [show (K != 4)=true from by simp [h4],aj,ab (by omega)]
theorem P2 {x y:TD} {r all:Bool} (h:cF x≠0):itE x r y all=cF x:=ae h
theorem LZ {x y:TD} {all:Bool} (hc:cF x=0) (h:cF y≠0):itE x true y all=cF y:=by
 unfold itE;rw [ab (λh=>h hc),ae ⟨rfl,h⟩]
theorem G5 {x y:TD} {all:Bool} (hc:cF x=0):itE x false y all=if eqD y d0=false then 5 else if all=true/\exT x=false then 10 else 0:=by
 have h1:(false=true/\cF y≠0)↔False:=by simp
 have h2:(false=true/\ordB x y=false)↔False:=by simp
 have h3:(false=false/\eqD y d0=false)↔eqD y d0=false:=by simp
 unfold itE;rw [ab (λh=>h hc)];simp only [h1,h2,aD,jb]
theorem MR {x y:TD} {all:Bool} (hc:cF x=0) (hy:cF y=0):itE x true y all=if ordB x y=false then 10 else if all=true/\exT x=false then 10 else 0:=by
 have h2:(true=true/\ordB x y=false)↔ordB x y=false:=by simp
 have h3:(true=false/\eqD y d0=false)↔False:=by simp
 unfold itE;rw [ab (λh=>h hc),ab (λh=>h.2 hy)];simp only [h3,aD,jb]
theorem Oo (a b:Bool):(IntKind.wrap .i64 ((if a then (1:Int) else 0)*(if b then (1:Int) else 0))==0)=!(a&&b):=by cases a<;>cases b<;>rfl
theorem FO {x y:TD} (r all:Bool) (hx:smT x) (hy:smT y):iE 20000000 x r y all=some (itE x r y all):=by
 have last:cond all (ob (ap10 (bh 20000000) x) λv11=>(cond (v11==0) (some 10) (some 0))) (some 0)=some (if all=true/\exT x=false then (10:Int) else 0):=by
  rw [reT hx]
  cases all
  ·rfl
  ·cases exT x<;>rfl
 unfold iE
 simp only [last]
 simp only [rcT hx,rcT hy,qU hx,qU hy,rcoT,ob,Oo]
 by_cases hc:cF x=0
 ·rw [show (cF x != 0)=false from by simp [hc],af]
  cases r
  ·simp only [af,ja,aj]
   rw [G5 hc]
   generalize eqD y d0=z
   cases z<;>rfl
  ·simp only [aj,dI,af]
   by_cases hcy:cF y=0
   ·rw [show (cF y != 0)=false from by simp [hcy],af]
    rw [MR hc hcy]
    unfold ordB
    cases px:plT x
    ·simp
    cases py:plT y
    ·simp
    obtain ⟨c1,e1,s1⟩:=ko.1 px
    obtain ⟨c2,e2,s2⟩:=ko.1 py
    rw [rdT hx c1 e1,rdT hy c2 e2]
    simp only [u2,H6,dI,af,mJ,jb]
    by_cases hcc:coT x=coT y
    ·rw [hcc,ar rfl]
     simp only [fp,af,mJ]
     by_cases hd:(dyT x).1<=(dyT y).1
     ·rw [show decide ((dyT x).1>(dyT y).1)=false from au (by omega),ar hd]
      simp
     ·rw [show decide ((dyT x).1>(dyT y).1)=true from ar (by omega),au hd]
      simp
    ·have:(((coT x:Nat):Int) != ((coT y:Nat):Int))=true:=by simp;omega
     rw [this,au hcc]
     simp
   ·rw [show (cF y != 0)=true from by simp [hcy],aj]
    rw [LZ hc hcy]
 ·rw [show (cF x != 0)=true from by simp [hc],aj]
  rw [P2 hc]
def lR {A:Type} (f:Nat->A->Int):Nat->List A->Option (Nat×Int)
 | _,[]=>none
 | i,t::r=>if f i t≠0 then some (i,f i t) else lR f (i+1) r
theorem qA {A X Y:Type} {step:X->Option (X⊕Y)} {st:Nat->X} {L:List A} {f:Nat->A->Int} {yes:Nat->Int->Y} {no:Y}
  (h1:∀i t,L[i]?=some t->step (st i)=some (if f i t≠0 then .inr (yes i (f i t)) else .inl (st (i+1)))) (h2:step (st L.length)=some (.inr no)):
  ∀(r i:Nat),i+r=L.length->∀N,r<N->aw step N (st i)=some (match lR f i (L.drop i) with | some p=>yes p.1 p.2 | none=>no):=by
 intro r
 induction r with
 | zero=>
  intro i hi N hN
  obtain ⟨N,rfl⟩:∃k,N=k+1:=⟨N - 1,by omega⟩
  rw [aw,show i=L.length by omega,h2,Gc]
  rfl
 | succ r ih=>
  intro i hi N hN
  obtain ⟨N,rfl⟩:∃k,N=k+1:=⟨N - 1,by omega⟩
  have hil:i<L.length:=by omega
  have he:L[i]?=some L[i]:=bm hil
  rw [aw,h1 i _ he,wJ hil,lR]
  by_cases hf:f i L[i]≠0
  ·rw [ae hf,ae hf]
  ·rw [ab hf,ab hf]
   exact ih (i+1) (by omega) N (by omega)
abbrev rT (t:TI):Bool:=(d8 t).2.2.1
abbrev iT (t:TI):TD:=(d8 t).2.2.2
def smI (t:TI):Prop:=smT (iF t)/\smT (iT t)
noncomputable def itI (t:TI) (all:Bool):Int:=itE (iF t) (rT t) (iT t) all
noncomputable def endB (t:TI):Bool:=!rT t&&plT (iF t)
noncomputable def errI (K:Int) (e l:Bool) (n i:Nat) (t:TI):Int:=
 if itI t (K==4)≠0 then itI t (K==4) else if (e&&decide (i=0))&&!endB t||((l&&decide (i+1=n))&&!endB t||(e&&(l&&decide (n=1)))) then 10 else 0
noncomputable def so (K:Int) (e l:Bool) (L:List TI):Int×Int:=match lR (errI K e l L.length) 0 L with
 | some p=>((p.1:Int),p.2)
 | none=>(0,0)
theorem oA {i:Nat} (h:i<9223372036854775807):w64 ((i:Int)+1)=((i+1:Nat):Int):=by
 show IntKind.wrap .i64 _=_
 rw [wrap_i64 _ (by omega) (by omega)];omega
theorem Cs {i:Nat} (h0:0<i) (h:i<9223372036854775807):w64 ((i:Int) - 1)=((i - 1:Nat):Int):=by
 show IntKind.wrap .i64 _=_
 rw [wrap_i64 _ (by omega) (by omega)];omega
theorem natB (a b:Nat):(((a:Nat):Int)==((b:Nat):Int))=decide (a=b):=by
 by_cases h:a=b
 ·subst h;simp
 ·rw [au h];simp;omega
theorem Ci (a:Nat):(((a:Nat):Int)==0)=decide (a=0):=natB a 0
theorem Qr {x y:TD} (r:Bool) (hx:smT x):mY 20000000 x r y=some (!r&&plT x):=by
 unfold mY
 rw [yJ hx]
 cases r<;>rfl
theorem GU {K:Int} (hK:K=3\/K=4) {e l:Bool} {L:List TI} {i:Nat} {t:TI} (hi:L[i]?=some t) (hs:smI t) (hn:L.length<=1000000) (D:TD) (KF:Int) (DF:TD) (KT:Int) (DT:TD):
  fT 20000000 (itI t (K==4)) 10 10 10 (iF t) (rT t) (iT t) K D KF DF KT DT e l (i:Int) (w64 (len L - 1)) L=some (errI K e l L.length i t):=by
 have hil:i<L.length:=(mX.1 hi).1
 have hlast:w64 (len L - 1)=((L.length - 1:Nat):Int):=Cs (by omega) (by omega)
 have hIt:fv 20000000 (iF t) (rT t) (iT t) K=some (itI t (K==4)):=by
  rw [CG _ hs.1 hs.2,ae hK];rfl
 unfold fT oP ow o9 oZ errI
 rw [hIt,hlast]
 simp only [Qr (rT t) hs.1,ob,Ci,natB]
 have e1:decide (i=L.length - 1)=decide (i+1=L.length):=by congr 1;exact propext (by omega)
 have e2:decide (L.length - 1=0)=decide (L.length=1):=by congr 1;exact propext (by omega)
 rw [e1,e2]
 show cond (itI t (K==4) != 0) _ _=_
 by_cases h0:itI t (K==4)=0
 ·rw [ab (λh=>h h0),show (itI t (K==4) != 0)=false from by simp [h0],af]
  show _=some (if ((e&&decide (i=0))&&!endB t||((l&&decide (i+1=L.length))&&!endB t||(e&&(l&&decide (L.length=1)))))=true then 10 else 0)
  unfold endB
  generalize (!rT t&&plT (iF t))=z
  generalize decide (i=0)=a
  generalize decide (i+1=L.length)=b
  generalize decide (L.length=1)=c
  cases e<;>cases l<;>cases z<;>cases a<;>cases b<;>cases c<;>rfl
 ·rw [ae h0,show (itI t (K==4) != 0)=true from by simp [h0],aj]
theorem KH {K:Int} (hK:K=3\/K=4) {e l:Bool} {L:List TI} (hs:∀t∈L,smI t) (hn:L.length<=1000000) (D:TD) (KF:Int) (DF:TD) (KT:Int) (DT:TD):
  kW 20000000 K D KF DF KT DT e l L=some (so K e l L):=by
 have:=qA (step:=eT 20000000) (st:=λi=>(len L,(i:Int),L,K,D,KF,DF,KT,DT,e,l,w64 (len L - 1))) (L:=L) (f:=errI K e l L.length) (yes:=λi q=>.inl ((i:Int),q)) (no:=.inr ())
  (λi t hi=>by
   have hil:i<L.length:=(mX.1 hi).1
   have hst:=hs t (fm hi)
   have hIt:fv 20000000 (iF t) (rT t) (iT t) K=some (itI t (K==4)):=by
    rw [CG _ hst.1 hst.2,ae hK];rfl
   unfold eT
   simp only [u12,u11,u10,u9,u8,u7,u6,u5,u4,u3,u2]
   rw [ar (show (i:Int)<len L by unfold len;omega),cT hil]
   simp only [aj,ob,hi]
   rw [show fv 20000000 (iF t) (d8 t).2.2.1 (d8 t).2.2.2 K=some (itI t (K==4)) from hIt]
   simp only
   rw [show fT 20000000 (itI t (K==4)) 10 10 10 (iF t) (d8 t).2.2.1 (d8 t).2.2.2 K D KF DF KT DT e l (i:Int) (w64 (len L - 1)) L=some (errI K e l L.length i t) from GU hK hi hst hn D KF DF KT DT]
   simp only
   rw [oA (by omega)]
   by_cases h0:errI K e l L.length i t=0
   ·rw [ab (λh=>h h0),show (errI K e l L.length i t != 0)=false from by simp [h0]];rfl
   ·rw [ae h0,show (errI K e l L.length i t != 0)=true from by simp [h0]];rfl)
  (by
   unfold eT
   simp only [u12,u11,u10,u9,u8,u7,u6,u5,u4,u3,u2]
   rw [au (show ¬((L.length:Nat):Int)<len L by unfold len;omega)]
   rfl)
  L.length 0 (by omega) 20000000 (by omega)
 unfold kW so
 rw [fY] at this
 show obs (aw (eT 20000000) 20000000 (len L,((0:Nat):Int),L,K,D,KF,DF,KT,DT,e,l,w64 (len L - 1))) _ _=_
 rw [this]
 cases lR (errI K e l L.length) 0 L<;>rfl
noncomputable def vF (K:Int) (x:TD):Int:=chkB K x.1 x.2.1 x.2.2.1 x.2.2.2.1 x.2.2.2.2.1 x.2.2.2.2.2.1 x.2.2.2.2.2.2.1 x.2.2.2.2.2.2.2.1 x.2.2.2.2.2.2.2.2.1 x.2.2.2.2.2.2.2.2.2
noncomputable def tX (K:Int) (x:TD) (K':Int) (y:TD):Int:=FJ (vF K x) (vF K' y) K K' (dyT x).1 (dyT y).2
theorem M9 {x y:TD} (hx:smT x) (hy:smT y) (K K':Int):ap10 (ap10 (kP 20000000 K) x K') y=some (tX K x K' y):=
 Nz hx.1 hx.2.1 hx.2.2.1 hx.2.2.2.1 hx.2.2.2.2.1 hx.2.2.2.2.2 hy.1 hy.2.1 hy.2.2.1 hy.2.2.2.1 hy.2.2.2.2.1 hy.2.2.2.2.2
theorem BV {x y:TD} (hx:smT x) (hy:smT y) (K K':Int):ap10 (ap10 (fc 20000000 K) x K') y=some (tX K x K' y):=
 JM hx.1 hx.2.1 hx.2.2.1 hx.2.2.2.1 hx.2.2.2.2.1 hx.2.2.2.2.2 hy.1 hy.2.1 hy.2.2.1 hy.2.2.2.1 hy.2.2.2.2.1 hy.2.2.2.2.2
def unuB (K:Int) (D:TD) (KF:Int) (DF:TD) (KT:Int) (DT:TD) (e l:Bool) (n:Nat):Bool:=
 !(K==1||eqD D d0)||(!(K==2||((KF==0)&&((eqD DF d0)&&true))&&((KT==0)&&((eqD DT d0)&&true)))||!(K==3||(K==4||(decide (n=0)&&(!e&&!l)))))
theorem Ir (n:Nat) (K:Int) (D:TD) (KF:Int) (DF:TD) (KT:Int) (DT:TD) (e l:Bool) (L:List TI):
  lw n K D KF DF KT DT e l L=some (unuB K D KF DF KT DT e l L.length):=by
 unfold lw unuB
 rw [show (len L==0)=decide (L.length=0) from Ci _]
 generalize eqD D d0=z0
 generalize ((KF==0)&&((eqD DF d0)&&true))=z1
 generalize ((KT==0)&&((eqD DT d0)&&true))=z2
 generalize decide (L.length=0)=z3
 generalize (K==1)=k1
 generalize (K==2)=k2
 generalize (K==3)=k3
 generalize (K==4)=k4
 revert z0 z1 z2 z3 k1 k2 k3 k4 e l
 decide +kernel
noncomputable def gD (K:Int) (D:TD) (KF:Int) (DF:TD) (KT:Int) (DT:TD) (e l:Bool) (L:List TI):Int×Int:=
 if K<1\/4<K then (0,18) else if unuB K D KF DF KT DT e l L.length=true then (0,5) else if K=1 then (0,cF D) else if K=2 then (0,tX KF DF KT DT) else if L.length=0 then (0,17) else if 256<L.length then (0,3) else so K e l L
def smE (D DF DT:TD) (L:List TI):Prop:=smT D/\smT DF/\smT DT/\∀t∈L,smI t
theorem DH {K:Int} {D:TD} {KF:Int} {DF:TD} {KT:Int} {DT:TD} {e l:Bool} {L:List TI} (h:smE D DF DT L):
  kU 20000000 K D KF DF KT DT e l L=some (gD K D KF DF KT DT e l L):=by
 obtain ⟨hD,hF,hT,hL⟩:=h
 unfold kU gD
 by_cases h1:K<1
 ·rw [ar h1,ae (.inl h1)];rfl
 by_cases h4:4<K
 ·rw [au h1,show decide (K>4)=true from ar h4,ae (.inr h4)];rfl
 rw [au h1,show decide (K>4)=false from au h4,ab (by omega),Ir]
 simp only [af,ob]
 cases unuB K D KF DF KT DT e l L.length
 ·simp only [af,bV,aD]
  by_cases k1:K=1
  ·rw [ae k1,show (K==1)=true from by simp [k1],fcT hD];rfl
  by_cases k2:K=2
  ·rw [ab k1,ae k2,show (K==1)=false from by simp [k1],show (K==2)=true from by simp [k2],M9 hF hT];rfl
  rw [ab k1,ab k2,show (K==1)=false from by simp [k1],show (K==2)=false from by simp [k2]]
  simp only [af]
  rw [show (len L==0)=decide (L.length=0) from Ci _]
  by_cases l0:L.length=0
  ·rw [ar l0,ae l0];rfl
  rw [au l0,ab l0]
  by_cases l1:256<L.length
  ·rw [show decide (len L>256)=true from ar (by show (256:Int)<((L.length:Nat):Int);omega),ae l1];rfl
  rw [show decide (len L>256)=false from au (by show ¬(256:Int)<((L.length:Nat):Int);omega),ab l1,KH (by omega) hL (by omega)]
  rfl
 ·rfl
theorem Ny (n:Nat) (i:Int) (L:List TI) (K:Int) (D:TD) (KF:Int) (DF:TD) (KT:Int) (DT:TD) (e l:Bool) (x:TD) (r:Bool) (y:TD):
  f8 n i L K D KF DF KT DT e l x r y=some (i,e&&(i==0),l&&(i==w64 (len L - 1)),L,K,D,KF,DF,KT,DT,e,l,x,r,y):=by
 unfold f8
 cases e<;>cases l<;>rfl
theorem Nu (i:Int) (a b:Bool) (L:List TI) (K:Int) (D:TD) (KF:Int) (DF:TD) (KT:Int) (DT:TD) (e l:Bool) (x:TD) (r:Bool) (y:TD) (hx:smT x):
  f6 20000000 i a b L K D KF DF KT DT e l x r y=some (i,(a&&b)||((a||b)&&(r||!plT x)),L,K,D,KF,DF,KT,DT,e,l):=by
 unfold f6
 rw [qU hx]
 cases a<;>cases b<;>cases r<;>cases plT x<;>rfl
theorem Ik {K:Int} (hK:K=3\/K=4) {e l:Bool} {L:List TI} (hs:∀t∈L,smI t) (hn:L.length<=1000000) (D:TD) (KF:Int) (DF:TD) (KT:Int) (DT:TD):
  aw (dT 20000000) 20000000 (0,L,K,D,KF,DF,KT,DT,e,l)=some (match lR (errI K e l L.length) 0 L with | some p=>.inl ((p.1:Int),p.2) | none=>.inr ()):=by
 have:=qA (step:=dT 20000000) (st:=λi=>((i:Int),L,K,D,KF,DF,KT,DT,e,l)) (L:=L) (f:=errI K e l L.length) (yes:=λi q=>.inl ((i:Int),q)) (no:=.inr ())
  (λi t hi=>by
   have hil:i<L.length:=(mX.1 hi).1
   have hst:=hs t (fm hi)
   have hIt:iE 20000000 (iF t) (d8 t).2.2.1 (d8 t).2.2.2 (K==4)=some (itI t (K==4)):=FO _ _ hst.1 hst.2
   have hlast:w64 (len L - 1)=((L.length - 1:Nat):Int):=Cs (by omega) (by omega)
   unfold dT
   simp only [u15,u14,u13,u12,u11,u10,u9,u8,u7,u6,u5,u4,u3,u2]
   rw [ar (show (i:Int)<len L by unfold len;omega),cT hil]
   simp only [aj,ob,hi,hIt]
   by_cases h0:itI t (K==4)=0
   ·rw [show (itI t (K==4) != 0)=false from by simp [h0],af]
    simp only [Ny,hlast,Ci,natB,u15,u14,u13,u12,u11,u10,u9,u8,u7,u6,u5,u4,u3,u2]
    rw [Nu _ _ _ _ _ _ _ _ _ _ _ _ _ _ _ hst.1]
    simp only [u11,u10,u9,u8,u7,u6,u5,u4,u3,u2]
    have e1:decide (i=L.length - 1)=decide (i+1=L.length):=by congr 1;exact propext (by omega)
    have e3:(decide (i=0)&&decide (i+1=L.length))=(decide (L.length=1)&&decide (i=0)):=by
     by_cases hi0:i=0
     ·subst hi0
      rw [ar rfl,mJ,xI]
      congr 1;exact propext (by omega)
     ·rw [au hi0,EJ];rfl
    have e4:decide (L.length=1)=true->decide (i=0)=true:=λh=>ar (by have:=C3 h;omega)
    have hE:errI K e l L.length i t=if ((e&&decide (i=0))&&(l&&decide (i+1=L.length)))||(((e&&decide (i=0))||(l&&decide (i+1=L.length)))&&(rT t||!plT (iF t))) then 10 else 0:=by
     unfold errI endB
     rw [h0,ab (λh=>h rfl)]
     congr 1
     revert e3 e4
     generalize rT t=r
     generalize plT (iF t)=z
     generalize decide (i=0)=a
     generalize decide (i+1=L.length)=b
     generalize decide (L.length=1)=c
     cases e<;>cases l<;>cases z<;>cases r<;>cases a<;>cases b<;>cases c<;>simp
    rw [e1,oA (by omega),hE]
    generalize (((e&&decide (i=0))&&(l&&decide (i+1=L.length)))||(((e&&decide (i=0))||(l&&decide (i+1=L.length)))&&(rT t||!plT (iF t))))=z
    cases z<;>rfl
   ·have:errI K e l L.length i t=itI t (K==4):=ae h0
    rw [show (itI t (K==4) != 0)=true from by simp [h0],aj,this,ae h0])
  (by
   unfold dT
   simp only [u15,u14,u13,u12,u11,u10,u9,u8,u7,u6,u5,u4,u3,u2]
   rw [au (show ¬((L.length:Nat):Int)<len L by unfold len;omega)]
   rfl)
  L.length 0 (by omega) 20000000 (by omega)
 rw [fY] at this
 exact this
theorem CL {K:Int} {D:TD} {KF:Int} {DF:TD} {KT:Int} {DT:TD} {e l:Bool} {L:List TI} (h:smE D DF DT L):
  ju 20000000 K D KF DF KT DT e l L=some (gD K D KF DF KT DT e l L):=by
 obtain ⟨hD,hF,hT,hL⟩:=h
 have j3:gV 20000000 L K D KF DF KT DT e l=some (K==3||K==4,L,K,D,KF,DF,KT,DT,e,l):=by
  unfold gV
  cases (K==3)<;>rfl
 have j4:gN 20000000 (K==3||K==4) L K D KF DF KT DT e l=some (K==3||K==4,!(K==1)&&(!(K==2)&&!(K==3||K==4)),L,K,D,KF,DF,KT,DT,e,l):=by
  unfold gN
  rw [show (K != 1)=!(K==1) from rfl,show (K != 2)=!(K==2) from rfl]
  cases (K==1)<;>cases (K==2)<;>rfl
 have j7:gI 20000000 (K==3||K==4) L K D KF DF KT DT e l=some (unuB K D KF DF KT DT e l L.length,L,K,D,KF,DF,KT,DT,e,l):=by
  unfold gI unuB
  have hpos:decide (len L>0)=!decide (L.length=0):=by
   by_cases hl:L.length=0
   ·rw [ar hl,au (by unfold len;omega)];rfl
   ·rw [au hl,ar (by unfold len;omega)];rfl
  rw [show (K != 1)=!(K==1) from rfl,show (K != 2)=!(K==2) from rfl,hpos]
  generalize eqD D d0=z0
  generalize ((KF==0)&&((eqD DF d0)&&true))=z1
  generalize ((KT==0)&&((eqD DT d0)&&true))=z2
  generalize decide (L.length=0)=z3
  generalize (K==1)=k1
  generalize (K==2)=k2
  generalize (K==3)=k3
  generalize (K==4)=k4
  cases z0<;>cases z1<;>cases z2<;>cases z3<;>cases k1<;>cases k2<;>cases k3<;>cases k4<;>cases e<;>cases l<;>rfl
 unfold ju gD
 rw [j3]
 simp only [ob,u11,u10,u9,u8,u7,u6,u5,u4,u3,u2,j4]
 by_cases hk:K<1\/4<K
 ·rw [ae hk,show (K==1)=false from by simp;omega,show (K==2)=false from by simp;omega,show (K==3)=false from by simp;omega,show (K==4)=false from by simp;omega]
  rfl
 have hc4:(!(K==1)&&(!(K==2)&&!(K==3||K==4)))=false:=by
  rcases (by omega:K=1\/K=2\/K=3\/K=4) with rfl | rfl | rfl | rfl<;>rfl
 rw [ab hk,hc4]
 simp only [af,j7]
 cases unuB K D KF DF KT DT e l L.length
 ·simp only [af,bV,aD]
  by_cases k1:K=1
  ·rw [ae k1,show (K==1)=true from by simp [k1],rcT hD];rfl
  by_cases k2:K=2
  ·rw [ab k1,ae k2,show (K==1)=false from by simp [k1],show (K==2)=true from by simp [k2],BV hF hT];rfl
  rw [ab k1,ab k2,show (K==1)=false from by simp [k1],show (K==2)=false from by simp [k2]]
  simp only [af]
  rw [show (len L==0)=decide (L.length=0) from Ci _]
  by_cases l0:L.length=0
  ·rw [ar l0,ae l0];rfl
  rw [au l0,ab l0]
  by_cases l1:256<L.length
  ·rw [show decide (len L>256)=true from ar (by show (256:Int)<((L.length:Nat):Int);omega),ae l1];rfl
  rw [show decide (len L>256)=false from au (by show ¬(256:Int)<((L.length:Nat):Int);omega),ab l1,af,af,Ik (by omega) hL (by omega)]
  unfold so
  cases lR (errI K e l L.length) 0 L<;>rfl
 ·rfl
theorem Kb {K:Int} {D:TD} {KF:Int} {DF:TD} {KT:Int} {DT:TD} {e l:Bool} {L:List TI} (h:smE D DF DT L):
  kQ 20000000 K D KF DF KT DT e l L=some (gD K D KF DF KT DT e l L).2:=by
 unfold kQ;rw [DH h];rfl
theorem CH {K:Int} {D:TD} {KF:Int} {DF:TD} {KT:Int} {DT:TD} {e l:Bool} {L:List TI} (h:smE D DF DT L):
  jx 20000000 K D KF DF KT DT e l L=some (gD K D KF DF KT DT e l L).2:=by
 unfold jx;rw [CL h];rfl
abbrev TR:=ah
def natI (x:Int) (b:Nat):Prop:=0<=x/\x<(b:Int)
def wfD (a0 a2 a3 a4 a5 a6 a7 a8 a9:Int):Prop:=natI a0 256/\natI a2 65536/\natI a3 256/\natI a4 256/\natI a5 256/\natI a6 256/\natI a7 256/\natI a8 256/\natI a9 256
theorem natI.nat {x:Int} {b:Nat} (h:natI x b):∃n:Nat,x=(n:Int)/\n<b:=⟨x.toNat,by have:=h.1;omega,by have:=h.1;have:=h.2;omega⟩
theorem DofI {a0 a2 a3 a4 a5 a6 a7 a8 a9:Int} (g:Bool) (h:wfD a0 a2 a3 a4 a5 a6 a7 a8 a9):∃x:TD,aF 20000000 a0 g a2 a3 a4 a5 a6 a7 a8 a9=some x/\smT x/\cF x=0:=by
 obtain ⟨h0,h2,h3,h4,h5,h6,h7,h8,h9⟩:=h
 obtain ⟨a0,rfl,b0⟩:=h0.nat
 obtain ⟨a2,rfl,b2⟩:=h2.nat
 obtain ⟨a3,rfl,b3⟩:=h3.nat
 obtain ⟨a4,rfl,b4⟩:=h4.nat
 obtain ⟨a5,rfl,b5⟩:=h5.nat
 obtain ⟨a6,rfl,b6⟩:=h6.nat
 obtain ⟨a7,rfl,b7⟩:=h7.nat
 obtain ⟨a8,rfl,b8⟩:=h8.nat
 obtain ⟨a9,rfl,b9⟩:=h9.nat
 obtain ⟨g',l,dg,x,q,mo,d,k0,k1,k2,e,hc,hok,hf⟩:=Pb 19999700 a0 a2 a3 a4 a5 a6 a7 a8 a9 g b2 b3 b4 b5 b6 b7 b8 b9
 obtain ⟨hY,hm2,hd2,_⟩:=nM hc
 obtain ⟨_,_,_,_,_,hdl⟩:=ir hY
 refine ⟨_,e,⟨?_,by show dg.length<=100;omega,?_,by simp,by simp,by simp⟩,DO hc hf⟩
 ·rcases hm2 with h | h
  ·rw [h];simp
  ·show mo.length<=18;omega
 ·rcases hd2 with h | h
  ·rw [h];simp
  ·show d.length<=18;omega
theorem J4:((List.range 13).all λj=>sea (monT j)==0)=true:=by decide +kernel
theorem Q0 (a0 a2 a3 a4 a5 a6 a7 a8 a9:Nat) (g:Bool) (h2:a2<65536) (h3:a3<256) (h4:a4<256) (h5:a5<256) (h6:a6<256) (hm:a5%40<=12):
  ∃r:TD,aF 20000000 (a0:Int) g (a2:Int) (a3:Int) (a4:Int) (a5:Int) (a6:Int) (a7:Int) (a8:Int) (a9:Int)=some r/\seT r=0:=by
 obtain ⟨g',l,dg,x,q,mo,d,e,_,_,_,_,hq1,hq0,_⟩:=Gn 19999700 a0 a2 a3 a4 a5 a6 a7 a8 a9 g h2 h3 h4 h5 h6
 refine ⟨_,e,?_⟩
 show sea mo=0
 by_cases hq:q=0
 ·rw [hq0 hq]
  have:=(cL.1 J4) (a5%40) (jg.2 (by omega))
  simpa using this
 ·rw [(hq1 hq).1];decide
theorem ExI {a0 a2 a3 a4 a5 a6 a7 a8 a9:Int} (g:Bool) (h:wfD a0 a2 a3 a4 a5 a6 a7 a8 a9):
  ∃x:TD,bv 20000000 a0 g a2 a3 a4 a5 a6 a7 a8 a9=some x/\smT x/\cF x=0/\exT x=true/\(Int.tmod a5 40<=12->seT x=0):=by
 obtain ⟨h0,h2,h3,h4,h5,h6,h7,h8,h9⟩:=h
 obtain ⟨a0,rfl,b0⟩:=h0.nat
 obtain ⟨a2,rfl,b2⟩:=h2.nat
 obtain ⟨a3,rfl,b3⟩:=h3.nat
 obtain ⟨a4,rfl,b4⟩:=h4.nat
 obtain ⟨a5,rfl,b5⟩:=h5.nat
 obtain ⟨a6,rfl,b6⟩:=h6.nat
 obtain ⟨a7,rfl,b7⟩:=h7.nat
 obtain ⟨a8,rfl,b8⟩:=h8.nat
 obtain ⟨a9,rfl,b9⟩:=h9.nat
 obtain ⟨g',l,dg,x,mo,d,k0,k1,k2,e,hc,he,hml,hd18,hdl⟩:=D4 19999700 a0 a2 a3 a4 a5 a6 a7 a8 a9 g b0 b2 b3 b4 b5 b6
 refine ⟨_,e,⟨hml,hdl,hd18,by simp,by simp,by simp⟩,hc,he,λhm=>?_⟩
 have t5:Int.tmod (a5:Int) 40=((a5%40:Nat):Int):=rfl
 rw [t5] at hm
 have t6:Int.tmod (a6:Int) 40=((a6%40:Nat):Int):=rfl
 have td:Int.tdiv ((a6%40:Nat):Int) 2=((a6%40 / 2:Nat):Int):=rfl
 have w6:IntKind.wrap .u8 ((a6%40 / 2:Nat):Int)=((a6%40 / 2:Nat):Int):=fN _ (by omega) (by omega)
 have S:=λ(c0 c6:Nat) (h6:c6<256)=>Q0 c0 a2 a3 a4 a5 c6 a7 a8 a9 g b2 b3 b4 b5 h6 (by omega)
 have e':bv 20000000 (a0:Int) g (a2:Int) (a3:Int) (a4:Int) (a5:Int) (a6:Int) (a7:Int) (a8:Int) (a9:Int)=some (g',l,dg,x,0,mo,d,((k0:Nat):Int),((k1:Nat):Int),((k2:Nat):Int)):=e
 have key:∀(o:Option TD) (y:TD),(∃r:TD,o=some r/\seT r=0)->(ob o λr98=>(cond (decide ((d4 r98).1>0)) (some (r98.1,r98.2.1,r98.2.2.1,r98.2.2.2.1,(0:Int),(d4 r98).2.1,(d4 r98).2.2.1,(d4 r98).2.2.2.1,(d8 r98).1,(d8 r98).2)) (some (r98.1,r98.2.1,r98.2.2.1,r98.2.2.2.1,(d4 r98).1,(d4 r98).2.1,(d4 r98).2.2.1,(d4 r98).2.2.2.1,(d8 r98).1,(d8 r98).2))))=some y->seT y=0:=by
  rintro o y ⟨r,rfl,hr⟩ hy
  simp only [ob] at hy
  cases hd:decide ((d4 r).1>0)<;>rw [hd] at hy<;>simp only [aj,af,aq] at hy<;>subst hy<;>exact hr
 unfold bv at e'
 rw [t5,t6,td,w6] at e'
 rw [au (show ¬((a5%40:Nat):Int)>33 by omega)] at e'
 simp only [af] at e'
 have z0:(0:Int)=((0:Nat):Int):=rfl
 cases h3:(Int.tmod (a0:Int) 6==3)<;>rw [h3] at e'<;>simp only [aj,af] at e'
 ·cases h4:(Int.tmod (a0:Int) 6==4)<;>rw [h4] at e'<;>simp only [aj,af] at e'
  ·cases h6':decide (((a6%40:Nat):Int)>31)<;>rw [h6'] at e'<;>simp only [aj,af] at e'
   ·exact key _ _ (S a0 a6 (by omega)) e'
   ·exact key _ _ (S a0 (a6%40 / 2) (by omega)) e'
  ·cases h6':decide (((a6%40:Nat):Int)>31)<;>rw [h6'] at e'<;>simp only [aj,af] at e'
   ·exact key _ _ (S 0 a6 (by omega)) e'
   ·exact key _ _ (S 0 (a6%40 / 2) (by omega)) e'
 ·cases h6':decide (((a6%40:Nat):Int)>31)<;>rw [h6'] at e'<;>simp only [aj,af] at e'
  ·exact key _ _ (S 0 a6 (by omega)) e'
  ·exact key _ _ (S 0 (a6%40 / 2) (by omega)) e'
theorem EI {a0 a2 a3 a4 a5 a6 a7 a8 a9:Int} (g:Bool) (h:wfD a0 a2 a3 a4 a5 a6 a7 a8 a9):∃x:TD,bZ 20000000 a0 g a2 a3 a4 a5 a6 a7 a8 a9=some x/\smT x/\plT x=true:=by
 obtain ⟨a5',rfl,b5⟩:=h.2.2.2.2.1.nat
 have t5:Int.tmod (a5':Int) 40=((a5'%40:Nat):Int):=rfl
 have t12:Int.tmod ((a5'%40:Nat):Int) 12=((a5'%40%12:Nat):Int):=rfl
 unfold bZ
 rw [t5,t12]
 by_cases hm:12<a5'%40
 ·rw [ar (show ((a5'%40:Nat):Int)>12 by omega),aj]
  have w:w8 (((a5'%40%12:Nat):Int)+1)=((a5'%40%12+1:Nat):Int):=by
   show IntKind.wrap .u8 _=_
   rw [fN _ (by omega) (by omega)];omega
  rw [w]
  have hw:wfD a0 a2 a3 a4 ((a5'%40%12+1:Nat):Int) a6 a7 a8 a9:=⟨h.1,h.2.1,h.2.2.1,h.2.2.2.1,⟨by omega,by omega⟩,h.2.2.2.2.2⟩
  obtain ⟨x,e,hs,hc,he,hse⟩:=ExI g hw
  have hs0:seT x=0:=hse (by
   show (((a5'%40%12+1)%40:Nat):Int)<=12
   omega)
  exact ⟨x,by rw [e];rfl,hs,ko.2 ⟨hc,he,by omega⟩⟩
 ·rw [au (show ¬((a5'%40:Nat):Int)>12 by omega),af]
  obtain ⟨x,e,hs,hc,he,hse⟩:=ExI g h
  have hs0:seT x=0:=hse (by rw [t5];omega)
  exact ⟨x,by rw [e];rfl,hs,ko.2 ⟨hc,he,by omega⟩⟩
theorem BofI {k a0 a2 a3 a4 a5 a6 a7 a8 a9:Int} (g:Bool) (hk:natI k 256) (h:wfD a0 a2 a3 a4 a5 a6 a7 a8 a9):
  ∃(K:Int) (x:TD),ca 20000000 k a0 g a2 a3 a4 a5 a6 a7 a8 a9=some (K,x)/\smT x/\vF K x=0/\(K=1\/((K=2\/K=3)/\x=d0)):=by
 obtain ⟨h0,h2,h3,h4,h5,h6,h7,h8,h9⟩:=h
 obtain ⟨k,rfl,bk⟩:=hk.nat
 obtain ⟨a0,rfl,b0⟩:=h0.nat
 obtain ⟨a2,rfl,b2⟩:=h2.nat
 obtain ⟨a3,rfl,b3⟩:=h3.nat
 obtain ⟨a4,rfl,b4⟩:=h4.nat
 obtain ⟨a5,rfl,b5⟩:=h5.nat
 obtain ⟨a6,rfl,b6⟩:=h6.nat
 obtain ⟨a7,rfl,b7⟩:=h7.nat
 obtain ⟨a8,rfl,b8⟩:=h8.nat
 obtain ⟨a9,rfl,b9⟩:=h9.nat
 obtain ⟨K,g',l,dg,x,mo,d,k0,k1,k2,e,hc,hml,hd18,hdl,hK⟩:=B_of 19999700 k a0 a2 a3 a4 a5 a6 a7 a8 a9 g b0 b2 b3 b4 b5 b6
 refine ⟨K,_,e,⟨hml,hdl,hd18,by simp,by simp,by simp⟩,hc,hK.imp id λ⟨h1,e1,e2,e3,e4,e5,e6,e7,e8,e9⟩=>⟨h1,?_⟩⟩
 subst e1 e2 e3 e4 e5 e6 e7 e8 e9
 rfl
theorem Ic {g l:Bool} {dg:aa} {x:Int} {m d:aa} {k0 k1 k2:Int} (h:chkD g l dg x 0 m d k0 k1 k2=0) (hm:m≠[]) (hp:0<=k0/\0<=k1):chkD g l dg x 0 m [] k0 k1 0=0:=by
 obtain ⟨c1,c2,c3,c4⟩:=At h
 unfold chkD
 have h2:bi m []=2:=by unfold bi;simp [hm]
 have ha:allM k0 k1 0 2=0:=by
  unfold allM at c4 ⊢
  by_cases hx:3<k0\/3<k1\/3<k2\/(bi m d<2/\k1≠0)\/(bi m d<3/\k2≠0)
  ·rw [ae hx] at c4;cases c4
  ·rw [ab (by omega)]
 rw [c1,h2,ha]
 have:(!(m==[])&&(!(decide (0<sea m))&&!(dH m 12)))=false:=by
  rcases c2 with h | h | h
  ·rw [h];rfl
  ·rw [ar h];simp
  ·rw [h];simp
 rw [this]
 rfl
theorem IH {g l:Bool} {dg:aa} {x:Int} {m d:aa} {k0 k1 k2:Int} (h:chkD g l dg x 0 m d k0 k1 k2=0):chkD g l dg x 0 [] [] k0 0 0=0:=by
 obtain ⟨c1,c2,c3,c4⟩:=At h
 have hy:yrD g l dg x 0 []=true:=by
  unfold yrD at c1 ⊢
  by_cases hok:okY g l dg x 0
  ·rw [ae hok]
   unfold yrB
   rfl
  ·rw [ab hok] at c1;cases c1
 have ha:allM k0 0 0 1=0:=by
  unfold allM at c4 ⊢
  by_cases hx:3<k0\/3<k1\/3<k2\/(bi m d<2/\k1≠0)\/(bi m d<3/\k2≠0)
  ·rw [ae hx] at c4;cases c4
  ·rw [ab (by omega)]
 unfold chkD
 rw [hy,show bi [] []=1 from rfl,ha]
 rfl
theorem yp {g l:Bool} {dg:aa} {x q:Int} {m:aa} {k0 k1 k2:Int} (h:chkD g l dg x q m [] k0 k1 k2=0):chkF g l dg x q m [] k0 k1 k2=0:=by
 unfold chkF
 rw [ab (λh=>h.2.1 rfl),h]
theorem Ck (x:TD):1<=coT x/\coT x<=3:=ki _ _
theorem cutI {x:TD} (hs:smT x) (hp:plT x=true) {n:Nat} (h1:1<=n) (h2:n<=coT x):∃y:TD,jp 20000000 x (n:Int)=some y/\smT y/\plT y=true/\coT y=n:=by
 obtain ⟨hc,he,hse⟩:=ko.1 hp
 obtain ⟨hq,E⟩:=GD hc he
 have hcd:=oq hc
 obtain ⟨g,l,dg,e,q,m,d,k0,k1,k2⟩:=x
 obtain ⟨s1,s2,s3,s4,s5,s6⟩:=hs
 simp only at s1 s2 s3 s4 s5 s6 hcd hq E
 subst hq
 have hc3:=Ck (g,l,dg,e,0,m,d,k0,k1,k2)
 have exD0:exD dg m d 0=true:=he
 obtain ⟨_,_,p3⟩:=rl hc
 have hco:coT (g,l,dg,e,0,m,d,k0,k1,k2)=bi m d:=rfl
 unfold jp
 by_cases n3:n<3
 ·rw [ar (show (n:Int)<3 by omega),aj]
  by_cases n2:n<2
  ·rw [ar (show (n:Int)<2 by omega),aj]
   have n1:n=1:=by omega
   subst n1
   have hcd1:=IH hcd
   exact ⟨_,rfl,⟨by simp,s2,by simp,s4,by simp,by simp⟩,ko.2 ⟨yp hcd1,(I3 exD0).2,by show ¬0<sea [];decide⟩,rfl⟩
  ·rw [au (show ¬(n:Int)<2 by omega),af]
   have n1:n=2:=by omega
   subst n1
   have hm:m≠[]:=by
    rintro rfl
    rw [hco] at h2
    unfold bi at h2
    by_cases hd:d=[]
    ·simp [hd] at h2
    ·exact absurd rfl (p3 hd).1
   have hcd1:=Ic hcd hm ⟨s4,s5⟩
   exact ⟨_,rfl,⟨s1,s2,by simp,s4,s5,by simp⟩,ko.2 ⟨yp hcd1,(I3 exD0).1,hse⟩,by show bi m []=2;unfold bi;simp [hm]⟩
 ·rw [au (show ¬(n:Int)<3 by omega),af,au (show ¬(n:Int)<2 by omega),af]
  exact ⟨_,rfl,⟨s1,s2,s3,s4,s5,s6⟩,hp,by omega⟩
theorem HY {p:TD} {all:Bool} (hp:plT p=true):itE p false d0 all=0:=by
 obtain ⟨hc,he,_⟩:=ko.1 hp
 rw [G5 hc,he]
 have:eqD d0 d0=true:=ku.2 rfl
 rw [this];simp
theorem AQ {x y:TD} {all:Bool} (hx:plT x=true) (hy:plT y=true) (hc:coT x=coT y) (hd:(dyT x).1<=(dyT y).1):itE x true y all=0:=by
 obtain ⟨c1,e1,_⟩:=ko.1 hx
 obtain ⟨c2,e2,_⟩:=ko.1 hy
 rw [MR c1 c2,e1]
 have:ordB x y=true:=by unfold ordB;rw [hx,hy,ar hc,ar hd];rfl
 rw [this];simp
theorem QJ {a0 a2 a3 a4 a5 a6 a7 a8 a9:Int} (g:Bool) {b0 b2 b3 b4 b5 b6 b7 b8 b9:Int} (f:Bool) (R:Int) (all:Bool) (ha:wfD a0 a2 a3 a4 a5 a6 a7 a8 a9) (hb:wfD b0 b2 b3 b4 b5 b6 b7 b8 b9):
  ∃x r y,gn 20000000 a0 g a2 a3 a4 a5 a6 a7 a8 a9 R b0 f b2 b3 b4 b5 b6 b7 b8 b9 all=some (x,r,y)/\smT x/\smT y/\itE x r y all=0:=by
 unfold gn
 cases (Int.tmod R 2==1)
 ·rw [af]
  cases all
  ·obtain ⟨x,e,hs,hc⟩:=DofI g ha
   refine ⟨x,false,d0,by rw [af,e];rfl,hs,tn,?_⟩
   have:eqD d0 d0=true:=ku.2 rfl
   rw [G5 hc,this];simp
  ·obtain ⟨x,e,hs,hc,he,_⟩:=ExI g ha
   refine ⟨x,false,d0,by rw [aj,e];rfl,hs,tn,?_⟩
   have:eqD d0 d0=true:=ku.2 rfl
   rw [G5 hc,this,he];simp
 ·rw [aj]
  obtain ⟨x,ex,sx,px⟩:=EI g ha
  obtain ⟨y,ey,sy,py⟩:=EI f hb
  rw [ex,ey]
  simp only [ob,rcoT]
  have hn:(cond (decide (((coT y:Nat):Int)<((coT x:Nat):Int))) ((coT y:Nat):Int) ((coT x:Nat):Int))=((min (coT x) (coT y):Nat):Int):=by
   by_cases h:coT y<coT x
   ·rw [ar (by omega),aj];omega
   ·rw [au (by omega),af];omega
  rw [hn]
  have c1:=Ck x
  have c2:=Ck y
  obtain ⟨u,eu,su,pu,nu⟩:=cutI sx px (n:=min (coT x) (coT y)) (by omega) (by omega)
  obtain ⟨v,ev,sv,pv,nv⟩:=cutI sy py (n:=min (coT x) (coT y)) (by omega) (by omega)
  obtain ⟨cu,xu,_⟩:=ko.1 pu
  obtain ⟨cv,xv,_⟩:=ko.1 pv
  rw [eu,ev]
  simp only [rdT su cu xu,rdT sv cv xv,u2]
  by_cases hd:(dyT u).1>(dyT v).1
  ·rw [ar hd]
   exact ⟨v,true,u,rfl,sv,su,AQ pv pu (by omega) (by omega)⟩
  ·rw [au hd]
   exact ⟨u,true,v,rfl,su,sv,AQ pu pv (by omega) (by omega)⟩
def wfR (r:TR):Prop:=wfD r.1 r.2.2.1 r.2.2.2.1 (d4 r).1 (d4 r).2.1 (d4 r).2.2.1 (d4 r).2.2.2.1 (d8 r).1 (d8 r).2.1/\
 wfD (d8 r).2.2.2.1 (d4 (d8 r)).2.1 (d4 (d8 r)).2.2.1 (d4 (d8 r)).2.2.2.1 (d16 r).1 (d16 r).2.1 (d16 r).2.2.1 (d16 r).2.2.2.1 (d4 (d16 r))
theorem yu {A:Type} {f:Nat->A->Int}:∀{L:List A} {k:Nat},(∀i t,L[i]?=some t->f (k+i) t=0)->lR f k L=none
 | [],_,_=>rfl
 | t::r,k,h=>by
  have h0:=h 0 t rfl
  rw [cG] at h0
  rw [lR,ab (λh=>h h0)]
  exact yu λi u hu=>by rw [gv,nB 1 i];exact h (i+1) u hu
structure RightE (k:Int) (D:TD) (KF:Int) (DF:TD) (KT:Int) (DT:TD) (e l:Bool) (I:List TI):Prop where
 sm:smE D DF DT I
 first:gD k D KF DF KT DT e l I=(0,0)
 len:I.length<=5
 kind:1<=k/\k<=4
 its:∀t∈I,itI t (k==4)=0
theorem GS {k:Int} (hk:k=3\/k=4) {e l:Bool} {I:List TI} (h1:1<=I.length) (h5:I.length<=5) (hs:∀t∈I,smI t/\itI t (k==4)=0) (he:e=true->∃t,I[0]?=some t/\endB t=true)
  (hl:l=true->∃t,I[I.length - 1]?=some t/\endB t=true) (hel:e=true->l=true->I.length≠1):RightE k d0 0 d0 0 d0 e l I:=by
 refine ⟨⟨tn,tn,tn,λt ht=>(hs t ht).1⟩,?_,h5,by omega,λt ht=>(hs t ht).2⟩
 have hu:unuB k d0 0 d0 0 d0 e l I.length=false:=by
  have hz:eqD d0 d0=true:=ku.2 rfl
  unfold unuB
  rw [hz]
  rcases hk with rfl | rfl<;>rfl
 unfold gD
 rw [ab (by omega),ab (by rw [hu];simp),ab (by omega),ab (by omega),ab (by omega),ab (by omega)]
 unfold so
 rw [yu λi t ht=>?_]
 rw [de]
 have hil:i<I.length:=(mX.1 ht).1
 unfold errI
 rw [(hs t (fm ht)).2,ab (λh=>h rfl),ab]
 intro h
 simp only [gB,az,bY,kx] at h
 rcases h with ⟨⟨a,b⟩,c⟩ | ⟨⟨a,b⟩,c⟩ | ⟨a,b,c⟩
 ·obtain ⟨u,u1,u2⟩:=he a
  subst b
  rw [ht] at u1;cases u1
  rw [u2] at c;cases c
 ·obtain ⟨u,u1,u2⟩:=hl a
  rw [show I.length - 1=i by omega,ht] at u1;cases u1
  rw [u2] at c;cases c
 ·exact hel a b c
theorem xL {p:TD} {all:Bool} (hs:smT p) (hp:plT p=true):smI (mkI p false d0)/\itI (mkI p false d0) all=0/\endB (mkI p false d0)=true:=
 ⟨⟨hs,tn⟩,HY hp,by unfold endB;show (!false&&plT p)=true;rw [hp];rfl⟩
theorem LJ (n x0:Nat) (x1:Int) (x2:Bool) (x3:Int) (x4:TD) (x5:Int) (x6:TD) (x7:Int) (x8:TD) (x9 x10:Bool) {L:List TR} (x12:Int) (x13:TD) (x14:Int) (x15:TD) (x16:Int) (x17:TD) (x18 x19:Bool) (x20 I:List TI)
  {r:TR} {p:TD} (h0:0<x0) (hr:L[0]?=some r) (hI:0<I.length) (hp:bZ n r.1 r.2.1 r.2.2.1 r.2.2.2.1 (d4 r).1 (d4 r).2.1 (d4 r).2.2.1 (d4 r).2.2.2.1 (d8 r).1 (d8 r).2.1=some p):
  gW n x0 x1 x2 x3 x4 x5 x6 x7 x8 x9 x10 L x12 x13 x14 x15 x16 x17 x18 x19 x20 I=some (x0,x1,x3,x4,x5,x6,x7,x8,x9,x10,L,x12,x13,x14,x15,x16,x17,x18,x19,x20,if x2=true then I.set 0 (mkI p false d0) else I)/\
  gi n x0 x1 x2 L x3 x4 x5 x6 x7 x8 x9 x10 x12 x13 x14 x15 x16 x17 x18 x19 x20 I=some (x0,x1,L,x3,x4,x5,x6,x7,x8,x9,x10,x12,x13,x14,x15,x16,x17,x18,x19,x20,if x2=true then I.set 0 (mkI p false d0) else I):=by
 unfold gW gi
 cases x2
 ·exact ⟨rfl,rfl⟩
 ·have i0:ix x0 (0:Int)=some 0:=cT (i:=0) h0
  have i1:ix I.length (0:Int)=some 0:=cT (i:=0) hI
  simp only [aj,i0,i1,hr,hp,ob,bm hI,aO]
  constructor<;>trivial
theorem Lw (n x0 m:Nat) (x2:Bool) (x3:Int) (x4:TD) (x5:Int) (x6:TD) (x7:Int) (x8:TD) (x9 x10:Bool) {L:List TR} (x12:Int) (x13:TD) (x14:Int) (x15:TD) (x16:Int) (x17:TD) (x18 x19:Bool) (x20 I:List TI)
  {r:TR} {p:TD} (h0:m<x0) (hr:L[m]?=some r) (hI:m<I.length) (hp:bZ n r.1 r.2.1 r.2.2.1 r.2.2.2.1 (d4 r).1 (d4 r).2.1 (d4 r).2.2.1 (d4 r).2.2.2.1 (d8 r).1 (d8 r).2.1=some p):
  g9 n x0 (m:Int) x2 x3 x4 x5 x6 x7 x8 x9 x10 L x12 x13 x14 x15 x16 x17 x18 x19 x20 I=some ((m:Int),x3,x4,x5,x6,x7,x8,x9,x10,x12,x13,x14,x15,x16,x17,x18,x19,x20,if x2=true then I.set m (mkI p false d0) else I)/\
  gj n x0 (m:Int) x2 L x3 x4 x5 x6 x7 x8 x9 x10 x12 x13 x14 x15 x16 x17 x18 x19 x20 I=some ((m:Int),x3,x4,x5,x6,x7,x8,x9,x10,x12,x13,x14,x15,x16,x17,x18,x19,x20,if x2=true then I.set m (mkI p false d0) else I):=by
 unfold g9 gj
 cases x2
 ·exact ⟨rfl,rfl⟩
 ·simp only [aj,cT h0,cT hI,hr,hp,ob,bm hI,aO]
  constructor<;>trivial
theorem Fb {L:List TR} (hL:∀r∈L,wfR r) {n:Nat} (hn:n<=L.length) (h5:n<=5) (k:Int) (e l:Bool) (x6:List TI):
  ∃I:List TI,I.length=n/\(∀t∈I,smI t/\itI t (k==4)=0)/\
   aw (cK 20000000) 20000000 (n,0,L,k,e,l,x6,([]:List TI))=some (n,0,d0,0,d0,0,d0,false,false,L,k,d0,0,d0,0,d0,e,l,x6,I)/\
   aw (ci 20000000) 20000000 (n,0,L,k,e,l,x6,([]:List TI))=some (n,L,0,d0,0,d0,0,d0,false,false,k,d0,0,d0,0,d0,e,l,x6,I):=by
 have hst:∀i (r:TR) (acc:List TI),i<n->L[i]?=some r->acc.length=i->∃b:TI,(smI b/\itI b (k==4)=0)/\
   cK 20000000 (n,(i:Int),L,k,e,l,x6,acc)=some (.inl (n,((i+1:Nat):Int),L,k,e,l,x6,acc++[b]))/\
   ci 20000000 (n,(i:Int),L,k,e,l,x6,acc)=some (.inl (n,((i+1:Nat):Int),L,k,e,l,x6,acc++[b])):=by
  intro i r acc hi hr ha
  obtain ⟨w1,w2⟩:=hL r (fm hr)
  obtain ⟨x,f,y,e1,sx,sy,e0⟩:=QJ r.2.1 (d4 (d8 r)).1 (d8 r).2.2.1 (k==4) w1 w2
  refine ⟨mkI x f y,⟨⟨sx,sy⟩,e0⟩,?_,?_⟩
  ·unfold cK
   simp only [u8,u7,u6,u5,u4,u3,u2]
   rw [ar (show (i:Int)<((n:Nat):Int) by omega),cT hi]
   simp only [aj,ob,hr,e1]
   rw [oA (by omega),show Nat.ble (acc.length+1) eh=true from dq (by unfold eh;omega)]
   rfl
  ·unfold ci
   simp only [u8,u7,u6,u5,u4,u3,u2]
   rw [ar (show (i:Int)<((n:Nat):Int) by omega),cT hi]
   simp only [aj,ob,hr,e1]
   rw [oA (by omega),show Nat.ble (acc.length+1) eh=true from dq (by unfold eh;omega)]
   rfl
 have done1:∀acc:List TI,cK 20000000 (n,(n:Int),L,k,e,l,x6,acc)=some (.inr (n,0,d0,0,d0,0,d0,false,false,L,k,d0,0,d0,0,d0,e,l,x6,acc)):=λacc=>by
  unfold cK
  simp only [u8,u7,u6,u5,u4,u3,u2]
  rw [au (show ¬((n:Nat):Int)<((n:Nat):Int) by omega)]
  rfl
 have done2:∀acc:List TI,ci 20000000 (n,(n:Int),L,k,e,l,x6,acc)=some (.inr (n,L,0,d0,0,d0,0,d0,false,false,k,d0,0,d0,0,d0,e,l,x6,acc)):=λacc=>by
  unfold ci
  simp only [u8,u7,u6,u5,u4,u3,u2]
  rw [au (show ¬((n:Nat):Int)<((n:Nat):Int) by omega)]
  rfl
 have main:∀(r i:Nat) (acc:List TI),i+r=n->acc.length=i->(∀t∈acc,smI t/\itI t (k==4)=0)->∀N,r<N->∃I:List TI,I.length=n/\(∀t∈I,smI t/\itI t (k==4)=0)/\
   aw (cK 20000000) N (n,(i:Int),L,k,e,l,x6,acc)=some (n,0,d0,0,d0,0,d0,false,false,L,k,d0,0,d0,0,d0,e,l,x6,I)/\
   aw (ci 20000000) N (n,(i:Int),L,k,e,l,x6,acc)=some (n,L,0,d0,0,d0,0,d0,false,false,k,d0,0,d0,0,d0,e,l,x6,I):=by
  intro r
  induction r with
  | zero=>
   intro i acc hi ha hq N hN
   obtain ⟨N,rfl⟩:∃k,N=k+1:=⟨N - 1,by omega⟩
   obtain rfl:i=n:=by omega
   exact ⟨acc,ha,hq,by rw [aw,done1],by rw [aw,done2]⟩
  | succ r ih=>
   intro i acc hi ha hq N hN
   obtain ⟨N,rfl⟩:∃k,N=k+1:=⟨N - 1,by omega⟩
   obtain ⟨b,hb,s1,s2⟩:=hst i _ acc (by omega) (bm (show i<L.length by omega)) ha
   obtain ⟨I,o1,o2,o3,o4⟩:=ih (i+1) (acc++[b]) (by omega) (by simp [ha]) (λx hx=>by
    rcases la.1 hx with h | h
    ·exact hq x h
    ·rw [ta.1 h];exact hb) N (by omega)
   exact ⟨I,o1,o2,by rw [aw,s1];exact o3,by rw [aw,s2];exact o4⟩
 exact main n 0 [] (by omega) rfl (λt ht=>by cases ht) 20000000 (by omega)
theorem Qu (n x0:Nat) (x1:Int) (x2:Bool) (P:List TR) (x4 x5 x6 x7:Int) (L:List TR) (x9:List TI):
  iv n x0 x1 x2 P x4 x5 x6 x7 L x9=some (x0,x1,x2||(x1==1||x1==2),P,x4,x5,x6,x7,L,x9)/\
  gG n x0 x1 x2 P x4 x5 x6 x7 x9=some (x0,x1,x2||(x1==1||x1==2),P,x4,x5,x6,x7,x9):=by
 unfold iv gG jF je
 cases x2<;>cases (x1==1)<;>exact ⟨rfl,rfl⟩
theorem Ls (n x0:Nat) (x1:Int) (x2:Bool) (P:List TR) (x4 x5 x6 x7:Int) (L:List TR) (x9:List TI):
  gZ n x0 x1 x2 P x4 x5 x6 x7 L x9=some (x0,x2||x1==4,P,x4,x5,x6,x7,L,x9)/\
  gc n x0 x1 x2 P x4 x5 x6 x7 x9=some (x0,x2||x1==4,P,x4,x5,x6,x7,x9):=by
 unfold gZ gc
 cases x2<;>exact ⟨rfl,rfl⟩
theorem Lu (n x0:Nat) (b:Bool) (L:List TR) (e l:Bool) (x5 x6:List TI):
  gX n x0 b L e l x5 x6=some (x0,L,(if b then 4 else 3),e,l,x5,x6)/\gf n x0 b L e l x5 x6=some (x0,L,(if b then 4 else 3),e,l,x5,x6):=by
 unfold gX gf
 cases b<;>exact ⟨rfl,rfl⟩
theorem LV (n:Nat) (x0 x1:Int) (x2:TD) (x3:Int) (x4:TD) (x5:Int) (x6:TD) (x7 x8:Bool) (x9:Int) (x10:TD) (x11:Int) (x12:TD) (x13:Int) (x14:TD) (x15 x16:Bool) (x17 x18:List TI):
  fa n x0 x1 x2 x3 x4 x5 x6 x7 x8 x9 x10 x11 x12 x13 x14 x15 x16 x17 x18=some ((x0==0)&&x15,x1,x2,x3,x4,x5,x6,x7,x8,x9,x10,x11,x12,x13,x14,x15,x16,x17,x18):=by
 unfold fa
 cases (x0==0)<;>rfl
theorem LI (n:Nat) (x0:Bool) (x1:Int) (x2:TD) (x3:Int) (x4:TD) (x5:Int) (x6:TD) (x7 x8:Bool) (x9:Int) (x10:TD) (x11:Int) (x12:TD) (x13:Int) (x14:TD) (x15 x16:Bool) (x17 x18:List TI):
  fh n x0 x1 x2 x3 x4 x5 x6 x7 x8 x9 x10 x11 x12 x13 x14 x15 x16 x17 x18=some (x1,x2,x3,x4,x5,x6,x7,x8,x9,x10,x11,x12,x13,x14,x15,!x0&&x16,x17,x18):=by
 unfold fh
 cases x0<;>rfl
theorem tE {x:TD} (hs:smT x) (hc:cF x=0):RightE 1 x 0 d0 0 d0 false false []:=by
 refine ⟨⟨hs,tn,tn,λt ht=>by cases ht⟩,?_,by simp,by omega,by simp⟩
 have hz:eqD d0 d0=true:=ku.2 rfl
 have hu:unuB 1 x 0 d0 0 d0 false false ([]:List TI).length=false:=by unfold unuB;rw [hz];rfl
 unfold gD
 rw [ab (by omega),ab (by rw [hu];simp),ae rfl,hc]
theorem qF {KF KT:Int} {x y:TD} (hx:smT x) (hy:smT y) (h:tX KF x KT y=0):RightE 2 d0 KF x KT y false false []:=by
 refine ⟨⟨tn,hx,hy,λt ht=>by cases ht⟩,?_,by simp,by omega,by simp⟩
 have hz:eqD d0 d0=true:=ku.2 rfl
 have hu:unuB 2 d0 KF x KT y false false ([]:List TI).length=false:=by unfold unuB;rw [hz];rfl
 unfold gD
 rw [ab (by omega),ab (by rw [hu];simp),ab (by omega),ae rfl,h]
theorem Im (x:TD):vF 1 x=if cF x=0 then if exT x=true then 0 else 11 else cF x:=by
 unfold vF chkB
 rw [ae rfl]
 rfl
theorem wt {x:TD} (h:vF 1 x=0):cF x=0/\exT x=true:=by
 rw [Im] at h
 by_cases hc:cF x=0
 ·rw [ae hc] at h
  by_cases he:exT x=true
  ·exact ⟨hc,he⟩
  ·rw [ab he] at h;cases h
 ·rw [ab hc] at h;exact absurd h hc
theorem KI {x:TD} (hc:cF x=0) (he:exT x=true):vF 1 x=0:=by
 rw [Im,ae hc,ae he]
theorem Ag {KF KT:Int} {x y:TD} (h1:vF KF x=0) (h2:vF KT y=0):tX KF x KT y=if KF≠1/\KT≠1 then 11 else if KF≠1\/KT≠1 then 0 else if (dyT x).1>(dyT y).2 then 11 else 0:=by
 unfold tX FJ
 rw [h1,h2,ab (λh=>h rfl),ab (λh=>h rfl)]
theorem L6 {n x0:Nat} {L:List TR} {r:TR} (h0:0<x0) (hr:L[0]?=some r) (hn:n=20000000) (hw:wfR r) {KF KT:Int} {x y:TD} (sx:smT x) (sy:smT y) (h1:vF KF x=0) (h2:vF KT y=0) (X:List TI):
  ∃KF' x' KT' y',gQ n x0 (tX KF x KT y != 0) L KF x KT y X=some (KF',x',KT',y',X)/\f9 n x0 (tX KF x KT y != 0) L KF x KT y X=some (KF',x',KT',y',X)/\
   smT x'/\smT y'/\tX KF' x' KT' y'=0:=by
 subst hn
 unfold gQ f9
 by_cases hp:tX KF x KT y=0
 ·rw [show (tX KF x KT y != 0)=false from by simp [hp]]
  exact ⟨KF,x,KT,y,rfl,rfl,sx,sy,hp⟩
 ·rw [show (tX KF x KT y != 0)=true from by simp [hp],aj,aj]
  unfold jE jd
  by_cases hk:KF=1
  ·subst hk
   have hk2:KT=1:=by
    rw [Ag h1 h2] at hp
    by_cases h:KT=1
    ·exact h
    ·rw [ab (by simp),ae (.inr h)] at hp
     exact absurd rfl hp
   subst hk2
   obtain ⟨c1,e1⟩:=wt h1
   obtain ⟨c2,e2⟩:=wt h2
   have l1:=LN c1 e1
   have l2:=LN c2 e2
   have hgt:(dyT x).1>(dyT y).2:=by
    rw [Ag h1 h2,ab (by simp),ab (by simp)] at hp
    by_cases h:(dyT x).1>(dyT y).2
    ·exact h
    ·rw [ab h] at hp;exact absurd rfl hp
   refine ⟨1,y,1,x,rfl,rfl,sy,sx,?_⟩
   rw [Ag h2 h1,ab (by simp),ab (by simp),ab (by omega)]
  ·obtain ⟨z,e,sz,cz,xz,_⟩:=ExI (d4 (d8 r)).1 hw.2
   have e':bv 20000000 (d8 r).2.2.2.1 (d4 (d8 r)).1 (d4 (d8 r)).2.1 (d4 (d8 r)).2.2.1 (d4 (d8 r)).2.2.2.1 (d16 r).1 (d16 r).2.1 (d16 r).2.2.1 (d16 r).2.2.2.1 (d4 (d16 r))=some z:=e
   have i0:ix x0 (0:Int)=some 0:=cT (i:=0) h0
   rw [show (KF != 1)=true from by simp [hk],aj,i0]
   simp only [ob,hr,e',u5,u4,u3,u2]
   refine ⟨KF,x,1,z,rfl,rfl,sx,sz,?_⟩
   rw [Ag h1 (KI cz xz),ab (by simp),ae (.inl hk)]
theorem HD {L:List TR} (hL:∀r∈L,wfR r) {n:Nat} (h1:1<=n) (hn:n<=L.length) (h5:n<=5) {k:Int} (hk:k=3\/k=4) (e l:Bool) {I:List TI} (hI:I.length=n) (hit:∀t∈I,smI t/\itI t (k==4)=0)
  {p q:TD} (sp:smT p) (pp:plT p=true) (sq:smT q) (pq:plT q=true):
  RightE k d0 0 d0 0 d0 e (!(decide (n=1)&&e)&&l) (if l=true then (if e=true then I.set 0 (mkI p false d0) else I).set (n - 1) (mkI q false d0) else if e=true then I.set 0 (mkI p false d0) else I):=by
 obtain ⟨p1,p2,p3⟩:=xL (all:=(k==4)) sp pp
 obtain ⟨q1,q2,q3⟩:=xL (all:=(k==4)) sq pq
 have hA:∀t∈(if e=true then I.set 0 (mkI p false d0) else I),smI t/\itI t (k==4)=0:=by
  intro t ht
  split at ht
  ·rcases G0 ht with h | h
   ·exact hit t h
   ·rw [h];exact ⟨p1,p2⟩
  ·exact hit t ht
 have hlA:(if e=true then I.set 0 (mkI p false d0) else I).length=n:=by split<;>simp [hI]
 have hA0:e=true->(if e=true then I.set 0 (mkI p false d0) else I)[0]?=some (mkI p false d0):=by
  intro h
  rw [ae h,G7 (by omega)]
 generalize hgA:(if e=true then I.set 0 (mkI p false d0) else I)=A at hA hlA hA0
 have hlB:(if l=true then A.set (n - 1) (mkI q false d0) else A).length=n:=by split<;>simp [hlA]
 have hB:∀t∈(if l=true then A.set (n - 1) (mkI q false d0) else A),smI t/\itI t (k==4)=0:=by
  intro t ht
  split at ht
  ·rcases G0 ht with h | h
   ·exact hA t h
   ·rw [h];exact ⟨q1,q2⟩
  ·exact hA t ht
 refine GS hk (by omega) (by omega) hB (λhe=>?_) (λhl=>?_) (λhe hl=>?_)
 ·by_cases hl:l=true
  ·rw [ae hl]
   by_cases hn1:n=1
   ·subst hn1
    exact ⟨mkI q false d0,by rw [G7 (by omega)],q3⟩
   ·exact ⟨mkI p false d0,by rw [List.getElem?_set_ne (by omega)];exact hA0 he,p3⟩
  ·rw [ab hl]
   exact ⟨_,hA0 he,p3⟩
 ·simp only [az] at hl
  rw [ae hl.2,CM,hlA]
  exact ⟨mkI q false d0,by rw [G7 (by omega)],q3⟩
 ·rw [he] at hl
  simp only [xI,az,kx,qT] at hl
  rw [hlB]
  exact hl.1
theorem My:wfR ((0,false,0,0,0,0,0,0,0,0,0,0,false,0,0,0,0,0,0,0,0):TR):=by
 have z:natI 0 256:=⟨by omega,by omega⟩
 have z2:natI 0 65536:=⟨by omega,by omega⟩
 exact ⟨⟨z,z2,z,z,z,z,z,z,z⟩,⟨z,z2,z,z,z,z,z,z,z⟩⟩
theorem min5 (m:Nat):cond (decide ((5:Int)<((m:Nat):Int))) 5 ((m:Nat):Int)=((min 5 m:Nat):Int):=by
 by_cases h:5<m
 ·rw [ar (by omega),aj];omega
 ·rw [au (by omega),af];omega
theorem Qj (k:Nat):((((k%8:Nat):Int)==0)||((((k%8:Nat):Int)==1)||(((k%8:Nat):Int)==2)))=decide (k%8<3)/\((((k%8:Nat):Int)==3)||(((k%8:Nat):Int)==4))=decide (k%8=3\/k%8=4):=by
 have h:k%8<8:=pO _ (by omega)
 generalize k%8=j at *
 rcases (by omega:j=0\/j=1\/j=2\/j=3\/j=4\/j=5\/j=6\/j=7) with rfl | rfl | rfl | rfl | rfl | rfl | rfl | rfl<;>decide
theorem E_of {K E0 E1 B:Int} (hK:natI K 256) (h0:natI E0 256) (h1:natI E1 256) (hB:natI B 256) {L:List TR} (hL:∀r∈L,wfR r):
  ∃k D KF DF KT DT e l I,jT 20000000 K E0 E1 B L=some (k,D,KF,DF,KT,DT,e,l,I)/\RightE k D KF DF KT DT e l I:=by
 obtain ⟨K,rfl,bK⟩:=hK.nat
 have t8:Int.tmod (K:Int) 8=((K%8:Nat):Int):=rfl
 obtain ⟨k1,k2⟩:=Qj K
 unfold jT ks
 rw [show (len L==0)=decide (L.length=0) from Ci _]
 generalize hM:(if L=[] then [(0,false,0,0,0,0,0,0,0,0,0,0,false,0,0,0,0,0,0,0,0)] else L:List TR)=M
 have hMw:∀r∈M,wfR r:=by
  intro r hr
  rw [<-hM] at hr
  split at hr
  ·rw [ta.1 hr];exact My
  ·exact hL r hr
 have hMl:1<=M.length:=by
  rw [<-hM]
  split
  ·simp
  ·rename_i h
   exact List.length_pos_iff.2 h
 have hn:min 5 M.length<=M.length:=CT _ _
 have hm1:1<=min 5 M.length:=by omega
 have hm5:min 5 M.length<=5:=Nat.min_le_left _ _
 obtain ⟨r,hr⟩:∃r,M[0]?=some r:=⟨M[0],bm (by omega)⟩
 obtain ⟨r',hr'⟩:∃r,M[min 5 M.length - 1]?=some r:=⟨M[min 5 M.length - 1],bm (by omega)⟩
 have hw:=hMw r (fm hr)
 have hw':=hMw r' (fm hr')
 obtain ⟨x,ex,sx,cx⟩:=DofI r.2.1 hw.1
 obtain ⟨KF,bf,ebf,sbf,cbf,_⟩:=BofI r.2.1 h0 hw.1
 obtain ⟨KT,bt,ebt,sbt,cbt,_⟩:=BofI (d4 (d8 r)).1 h1 hw.2
 obtain ⟨p,ep,sp,pp⟩:=EI r.2.1 hw.1
 obtain ⟨q,eq,sq,pq⟩:=EI r'.2.1 hw'.1
 have i0:ix (min 5 M.length) (0:Int)=some 0:=cT (i:=0) (by omega)
 have ebx:bx M.length (cond (decide ((5:Int)<len M)) 5 (len M))=some (min 5 M.length):=by
  rw [show (cond (decide ((5:Int)<len M)) 5 (len M))=((min 5 M.length:Nat):Int) from min5 _,dG hn]
 have hlast:w64 (((min 5 M.length:Nat):Int) - 1)=((min 5 M.length - 1:Nat):Int):=Cs (by omega) (by omega)
 have hl0:(((min 5 M.length - 1:Nat):Int)==0)=decide (min 5 M.length=1):=by
  rw [Ci];congr 1;exact propext (by omega)
 by_cases hnil:L=[]
 ·rw [ae hnil] at hM
  subst hnil
  rw [show decide (([]:List TR).length=0)=true from rfl,aj]
  simp only [obs,sm,ob,u7,u6,u5,u4,u3,u2,hM,ebx,t8,(Qu _ _ _ _ _ _ _ _ _ _ _).1,u10,u9,u8,k1]
  by_cases hs:K%8<3
  ·rw [ar hs]
   simp only [aj,i0,hr,ex]
   exact ⟨_,_,_,_,_,_,_,_,_,rfl,tE sx cx⟩
  rw [au hs]
  simp only [af,(Ls _ _ _ _ _ _ _ _ _ _ _).1,u9,u8,u7,u6,u5,u4,u3,u2,k2]
  by_cases hv:K%8=3\/K%8=4
  ·rw [ar hv]
   have ebf':ca 20000000 E0 r.1 r.2.1 r.2.2.1 r.2.2.2.1 (d4 r).1 (d4 r).2.1 (d4 r).2.2.1 (d4 r).2.2.2.1 (d8 r).1 (d8 r).2.1=some (KF,bf):=ebf
   have ebt':ca 20000000 E1 (d8 r).2.2.2.1 (d4 (d8 r)).1 (d4 (d8 r)).2.1 (d4 (d8 r)).2.2.1 (d4 (d8 r)).2.2.2.1 (d16 r).1 (d16 r).2.1 (d16 r).2.2.1 (d16 r).2.2.2.1 (d4 (d16 r))=some (KT,bt):=ebt
   obtain ⟨KF',x',KT',y',j1,_,s1,s2,hp⟩:=L6 (n:=20000000) (x0:=min 5 M.length) (by omega) hr rfl hw sbf sbt cbf cbt ([]:List TI)
   simp only [aj,i0,hr,ebf',ebt',BV sbf sbt,j1,u5,u4,u3,u2]
   exact ⟨_,_,_,_,_,_,_,_,_,rfl,qF s1 s2 hp⟩
  rw [au hv]
  generalize (Int.tmod B 2==1)=e
  generalize (Int.tmod (w8 (Int.tdiv B 2)) 2==1)=l
  rw [t8]
  generalize (((K%8:Nat):Int)==7)=b7
  obtain ⟨I,o1,o2,o3,_⟩:=Fb hMw hn hm5 (if b7=true then 4 else 3) e l []
  have hk:(if b7=true then (4:Int) else 3)=3\/(if b7=true then (4:Int) else 3)=4:=by cases b7<;>simp
  simp only [af,(Lu _ _ _ _ _ _ _ _).1,o3,hlast,u7,u6,u5,u4,u3,u2]
  simp only [u20,u19,u18,u17,u16,u15,u14,u13,u12,u11,u10,u9,u8,u7,u6,u5,u4,u3,u2]
  rw [(LJ 20000000 _ _ _ _ _ _ _ _ _ _ _ _ _ _ _ _ _ _ _ _ _ (by omega) hr (by omega) ep).1]
  simp only [u21,u20,u19,u18,u17,u16,u15,u14,u13,u12,u11,u10,u9,u8,u7,u6,u5,u4,u3,u2]
  rw [hlast,(Lw 20000000 (min 5 M.length) (min 5 M.length - 1) _ _ _ _ _ _ _ _ _ _ _ _ _ _ _ _ _ _ _ (by omega) hr' (by split<;>simp [o1]<;>omega) eq).1]
  simp only [u21,u20,u19,u18,u17,u16,u15,u14,u13,u12,u11,u10,u9,u8,u7,u6,u5,u4,u3,u2,LV,LI,hl0]
  exact ⟨_,_,_,_,_,_,_,_,_,rfl,HD hMw hm1 hn hm5 hk e l o1 o2 sp pp sq pq⟩
 ·rw [ab hnil] at hM
  subst hM
  rw [au (show ¬L.length=0 from λh=>hnil (wX h)),af]
  simp only [obs,sm,ob,u7,u6,u5,u4,u3,u2,ebx,t8,(Qu _ _ _ _ _ _ _ _ _ [] _).2,u10,u9,u8,k1]
  by_cases hs:K%8<3
  ·rw [ar hs]
   simp only [aj,i0,hr,ex]
   exact ⟨_,_,_,_,_,_,_,_,_,rfl,tE sx cx⟩
  rw [au hs]
  simp only [af,(Ls _ _ _ _ _ _ _ _ _ [] _).2,u9,u8,u7,u6,u5,u4,u3,u2,k2]
  by_cases hv:K%8=3\/K%8=4
  ·rw [ar hv]
   have ebf':ca 20000000 E0 r.1 r.2.1 r.2.2.1 r.2.2.2.1 (d4 r).1 (d4 r).2.1 (d4 r).2.2.1 (d4 r).2.2.2.1 (d8 r).1 (d8 r).2.1=some (KF,bf):=ebf
   have ebt':ca 20000000 E1 (d8 r).2.2.2.1 (d4 (d8 r)).1 (d4 (d8 r)).2.1 (d4 (d8 r)).2.2.1 (d4 (d8 r)).2.2.2.1 (d16 r).1 (d16 r).2.1 (d16 r).2.2.1 (d16 r).2.2.2.1 (d4 (d16 r))=some (KT,bt):=ebt
   obtain ⟨KF',x',KT',y',_,j1,s1,s2,hp⟩:=L6 (n:=20000000) (x0:=min 5 L.length) (by omega) hr rfl hw sbf sbt cbf cbt ([]:List TI)
   simp only [aj,i0,hr,ebf',ebt',BV sbf sbt,j1,u5,u4,u3,u2]
   exact ⟨_,_,_,_,_,_,_,_,_,rfl,qF s1 s2 hp⟩
  rw [au hv]
  generalize (Int.tmod B 2==1)=e
  generalize (Int.tmod (w8 (Int.tdiv B 2)) 2==1)=l
  rw [t8]
  generalize (((K%8:Nat):Int)==7)=b7
  obtain ⟨I,o1,o2,_,o3⟩:=Fb hMw hn hm5 (if b7=true then 4 else 3) e l []
  have hk:(if b7=true then (4:Int) else 3)=3\/(if b7=true then (4:Int) else 3)=4:=by cases b7<;>simp
  simp only [af,(Lu _ _ _ _ _ _ _ _).2,o3,hlast,u7,u6,u5,u4,u3,u2]
  simp only [u20,u19,u18,u17,u16,u15,u14,u13,u12,u11,u10,u9,u8,u7,u6,u5,u4,u3,u2]
  rw [(LJ 20000000 _ _ _ _ _ _ _ _ _ _ _ _ _ _ _ _ _ _ _ _ _ (by omega) hr (by omega) ep).2]
  simp only [u21,u20,u19,u18,u17,u16,u15,u14,u13,u12,u11,u10,u9,u8,u7,u6,u5,u4,u3,u2]
  rw [hlast,(Lw 20000000 (min 5 L.length) (min 5 L.length - 1) _ _ _ _ _ _ _ _ _ _ _ _ _ _ _ _ _ _ _ (by omega) hr' (by split<;>simp [o1]<;>omega) eq).2]
  simp only [u21,u20,u19,u18,u17,u16,u15,u14,u13,u12,u11,u10,u9,u8,u7,u6,u5,u4,u3,u2,LV,LI,hl0]
  exact ⟨_,_,_,_,_,_,_,_,_,rfl,HD hMw hm1 hn hm5 hk e l o1 o2 sp pp sq pq⟩
noncomputable instance decTI:DecidableEq TI:=λa b=>Classical.propDecidable (a=b)
theorem CA {t u:TI}:((eqD (iF t) (iF u))&&(((d8 t).2.2.1==(d8 u).2.2.1)&&((eqD (d8 t).2.2.2 (d8 u).2.2.2)&&true)))=decide (t=u):=by
 rw [xM,decide_eq_true_iff]
 have hs:∀a b c:Bool,(a&&(b&&(c&&true)))=true↔a=true/\b=true/\c=true:=by decide
 rw [hs,ku,ku,bD]
 obtain ⟨a1,a2,a3,a4,a5,a6,a7,a8,a9,a10,b,c⟩:=t
 obtain ⟨e1,e2,e3,e4,e5,e6,e7,e8,e9,e10,f,g⟩:=u
 simp only [bQ,and_assoc]
noncomputable def difI (J:List TI) (i:Nat) (t:TI):Int:=if J[i]?=some t then 0 else 1
theorem Ge {J:List TI}:∀(I:List TI) (i:Nat),i+I.length=J.length->(lR (difI J) i I=none↔I=J.drop i)
 | [],i,h=>by
  rw [lR,kB (by simp at h;omega)]
  simp
 | t::r,i,h=>by
  have hi:i<J.length:=by simp at h;omega
  have hj:J[i]?=some J[i]:=bm hi
  rw [lR,wJ hi]
  unfold difI
  by_cases he:J[i]?=some t
  ·rw [ae he,ab (by simp)]
   have:=Ge (J:=J) r (i+1) (by simp at h;omega)
   unfold difI at this
   rw [this]
   rw [hj] at he
   simp only [aq] at he
   simp [he]
  ·rw [ab he,ae (by simp)]
   rw [hj] at he
   simp only [aq] at he
   simp only [A5]
   constructor
   ·intro h;cases h
   ·rintro ⟨h,_⟩;exact absurd h.symm he
theorem JP (I J:List TI) (h:I.length=J.length) {A:Type} (a b:A):(match lR (difI J) 0 I with | some _=>a | none=>b)=if I=J then b else a:=by
 have:=Ge (J:=J) I 0 (by omega)
 rw [fY] at this
 cases hs:lR (difI J) 0 I with
 | none=>rw [ae (this.1 hs)]
 | some p=>rw [ab (λh=>by rw [this.2 h] at hs;cases hs)]
theorem zK {I J:List TI} (h:I.length=J.length) (hn:I.length<=1000000) (k:Int) (D:TD) (KF:Int) (DF:TD) (KT:Int) (DT:TD) (e l:Bool) (k':Int) (D':TD) (KF':Int) (DF':TD) (KT':Int) (DT':TD) (e' l':Bool):
  aw (cM 20000000) 20000000 (0,I,J,k,D,KF,DF,KT,DT,e,l,k',D',KF',DF',KT',DT',e',l')=some (if I=J then .inr () else .inl 0):=by
 have e2:(match lR (difI J) 0 I with | some p=>(.inl 0:Int⊕Unit) | none=>.inr ())=if I=J then .inr () else .inl 0:=JP I J h _ _
 rw [<-e2]
 have:=qA (step:=cM 20000000) (st:=λi=>((i:Int),I,J,k,D,KF,DF,KT,DT,e,l,k',D',KF',DF',KT',DT',e',l')) (L:=I) (f:=difI J) (yes:=λ_ _=>.inl (0:Int)) (no:=.inr ()) ?_ ?_ I.length 0 (by omega) 20000000 (by omega)
 ·rw [fY] at this
  exact this
 ·intro i t ht
  have hi:i<I.length:=(mX.1 ht).1
  have hj:J[i]?=some (J[i]'(by omega)):=bm (by omega)
  generalize J[i]'(by omega)=u at hj
  unfold cM
  simp only [u19,u18,u17,u16,u15,u14,u13,u12,u11,u10,u9,u8,u7,u6,u5,u4,u3,u2]
  rw [ar (show (i:Int)<len I by show (i:Int)<((I.length:Nat):Int);omega),cT hi,cT (show i<J.length by omega)]
  simp only [aj,ob,ht,hj,CA]
  rw [oA (by omega)]
  unfold difI
  rw [hj]
  by_cases he:t=u
  ·rw [ar he,ab (by simp [he])]
   rfl
  ·rw [au he,ae (by simp only [aq];rw [ab (λh=>he h.symm)];simp)]
   rfl
 ·unfold cM
  simp only [u19,u18,u17,u16,u15,u14,u13,u12,u11,u10,u9,u8,u7,u6,u5,u4,u3,u2]
  rw [au (show ¬((I.length:Nat):Int)<len I by show ¬((I.length:Nat):Int)<((I.length:Nat):Int);omega)]
  rfl
theorem Jk {A X Y:Type} {step:X->Option (X⊕Y)} {st:Nat->X} {L:List A} {no:Y} (h1:∀i t,L[i]?=some t->step (st i)=some (.inl (st (i+1)))) (h2:step (st L.length)=some (.inr no)) {N:Nat} (hN:L.length<N):
  aw step N (st 0)=some no:=by
 have:=qA (step:=step) (st:=st) (L:=L) (f:=λ_ _=>0) (yes:=λ_ _=>no) (no:=no) (λi t ht=>by rw [h1 i t ht];rfl) h2 L.length 0 (by omega) N hN
 rw [this]
 cases lR (λ_ _=>0) 0 (List.drop 0 L)<;>rfl
theorem zw (n:Nat) (t S R:aa) (at_:Int) (ht:t.length<4611686018427387904) (hn:t.length<n):
  aw (dK n) n (t,0,R,S,at_)=some (((lcp R t:Nat):Int),S,at_):=by
 have:=fe (step:=dK n)
  (λx=>∃j:Nat,j<=t.length/\x=(t,(j:Int),R,S,at_)) (λx=>t.length - x.2.1.toNat)
  (λx=>(((x.2.1.toNat+lcp (R.drop x.2.1.toNat) (t.drop x.2.1.toNat):Nat):Int),S,at_)) ?_ n (t,0,R,S,at_) ⟨0,by omega,rfl⟩ (by simp;omega)
 ·simpa using this
 rintro x ⟨j,hj,rfl⟩
 simp only [bF,dK,NV]
 by_cases hlt:j<t.length/\j<R.length
 ·obtain ⟨h1,h2⟩:=hlt
  obtain ⟨c,hc⟩:∃c,t[j]?=some c:=⟨t[j],bm h1⟩
  obtain ⟨d,hd⟩:∃d,R[j]?=some d:=⟨R[j],bm h2⟩
  have hw:IntKind.wrap .i64 ((j:Int)+1)=((j+1:Nat):Int):=by rw [wrap_i64 _ (by omega) (by omega)];omega
  have hb:(decide ((j:Int)<((min t.length R.length:Nat):Int)))=true:=by simp only [bY];omega
  have hb2:(decide ((j:Int)<((min R.length t.length:Nat):Int)))=true:=by simp only [bY];omega
  simp only [hb,hb2,aj,iw hc,iw hd,ob,xp,fi hc,fi hd,lcp]
  cases hcd:d==c with
  | true=>
   refine .inl ⟨_,rfl,⟨j+1,by omega,by rw [hw]⟩,?_,?_⟩
   ·simp only [hw,bF];omega
   ·simp only [hw,bF,bQ,ru,aO]
    omega
  | false=>exact .inr (by simp)
 ·have hb:(decide ((j:Int)<((min t.length R.length:Nat):Int)))=false:=by simp only [qT];omega
  have hb2:(decide ((j:Int)<((min R.length t.length:Nat):Int)))=false:=by simp only [qT];omega
  refine .inr ?_
  have hz:lcp (R.drop j) (t.drop j)=0:=by
   by_cases h1:j<t.length
   ·rw [kB (show R.length<=j by omega)];rfl
   ·rw [kB (show t.length<=j by omega)];cases R.drop j<;>rfl
  simp only [hb,hb2,hz,af,cG]
theorem Em (n:Nat) (t S:aa) (at_:Nat) (h:at_<=S.length) (hS:S.length<4611686018427387904) (ht:t.length<4611686018427387904) (hn:t.length<n):
  da n t S (at_:Int)=some (if (S.drop at_).take t.length=t then .inl (S,((at_+t.length:Nat):Int)) else .inr (((at_+lcp (S.drop at_) t:Nat):Int),5,S,(at_:Int))):=by
 have hk:=ww (S.drop at_) t
 rw [cQ] at hk
 simp only [da,qp n t S at_ h hS,ob]
 by_cases hp:(S.drop at_).take t.length=t
 ·simp [hp]
 ·have hw:IntKind.wrap .i64 ((at_:Int)+((lcp (S.drop at_) t:Nat):Int))=((at_+lcp (S.drop at_) t:Nat):Int):=by rw [wrap_i64 _ (by omega) (by omega)];omega
  simp only [hp,aD,af,yY n S at_ h,zw n t S (S.drop at_) (at_:Int) ht hn,BO,hw,uC]
  simp
def tdR (r:DR):TD:=(r.1,r.2.1,r.2.2.1,(r.2.2.2.1:Int),(r.2.2.2.2.1:Int),r.2.2.2.2.2.1,r.2.2.2.2.2.2.1,(r.2.2.2.2.2.2.2.1.1:Int),(r.2.2.2.2.2.2.2.1.2.1:Int),(r.2.2.2.2.2.2.2.1.2.2:Int))
theorem um {S:aa} {a:Nat} (h:a<=S.length) {r:DR} (hr:jU S a=.inr r):smT (tdR r)/\cF (tdR r)=0/\a<=enR r/\enR r<=S.length:=by
 obtain ⟨h1,h2⟩:=Kz h hr
 obtain ⟨g,l,dg,x,s,m,d,M,P,e⟩:=r
 have ok:=DK h h1
 have:=ok.dg17
 have:=ok.m2
 have:=ok.d2
 refine ⟨⟨by show m.length<=18;omega,by show dg.length<=100;omega,by show d.length<=18;omega,by show (0:Int)<=(M.1:Int);omega,by show (0:Int)<=(M.2.1:Int);omega,by show (0:Int)<=(M.2.2:Int);omega⟩,?_,ok.le,ok.end_⟩
 have hc:=yi (g:=g) (l:=l) (dg:=dg) (x:=(x:Int)) (q:=(s:Int)) (m:=m) (d:=d) (k0:=(M.1:Int)) (k1:=(M.2.1:Int)) (k2:=(M.2.2:Int)) (vM ok.all)
 unfold chkR at h2
 simp only [] at h2
 show chkF g l dg (x:Int) (s:Int) m d (M.1:Int) (M.2.1:Int) (M.2.2:Int)=0
 omega
def dts (l:aa):Bool:=l.take 2==[46,46]
theorem vt {l:aa}:dts l=true↔∃r,l=46::46::r:=by
 unfold dts
 rw [bD]
 constructor
 ·exact FR
 ·rintro ⟨r,rfl⟩;rfl
theorem tR {S:aa} {p:Nat} (h:dts (S.drop p)=true):p+2<=S.length:=by
 obtain ⟨r,hr⟩:=vt.1 h
 have:=dP List.length hr
 simp at this
 omega
noncomputable def pg (S:aa) (en:UInt8) (p:Nat):(Nat×Nat×Nat)⊕(TI×Nat×Nat):=
 match jU S p with
 | .inl f=>.inl f
 | .inr r=>if dts (S.drop (enR r))=true/\(S.drop (enR r+2)).head?≠some en then
   match jU S (enR r+2) with
   | .inl f=>.inl f
   | .inr r2=>.inr (mkI (tdR r) true (tdR r2),plR r,enR r2)
  else .inr (mkI (tdR r) false d0,plR r,enR r)
theorem BT {S:aa} {en:UInt8} {p:Nat} (h:p<=S.length) {t:TI} {a p':Nat} (hr:pg S en p=.inr (t,a,p')):smI t/\p<=p'/\p'<=S.length:=by
 unfold pg at hr
 cases h1:jU S p with
 | inl f=>rw [h1] at hr;cases hr
 | inr r=>
  obtain ⟨s1,_,l1,l2⟩:=um h h1
  rw [h1] at hr
  simp only [] at hr
  split at hr
  ·rename_i hd
   have:=tR hd.1
   cases h2:jU S (enR r+2) with
   | inl f=>rw [h2] at hr;cases hr
   | inr r2=>
    obtain ⟨s2,_,l3,l4⟩:=um (by omega) h2
    rw [h2] at hr
    cases hr
    exact ⟨⟨s1,s2⟩,by omega,l4⟩
  ·cases hr
   exact ⟨⟨s1,tn⟩,l1,l2⟩
noncomputable def nl (S:aa) (en:UInt8):Nat->Nat->List Nat->List TI->(Nat×Nat×Nat)⊕(Nat×List Nat×List TI)
 | 0,p,_,_=>.inl (p,3,p)
 | r+1,p,P,I=>match pg S en p with
  | .inl f=>.inl f
  | .inr (t,a,p')=>if (S.drop p').head?=some 44 then nl S en r (p'+1) (P++[a]) (I++[t]) else .inr (p',P++[a],I++[t])
theorem pY {S:aa} {p:Nat} {c:UInt8} (h:(S.drop p).head?=some c):p+1<=S.length:=by
 cases hd:S.drop p with
 | nil=>rw [hd] at h;cases h
 | cons a r=>
  have:=dP List.length hd
  simp at this
  omega
theorem wy {S:aa} {en:UInt8}:∀(r p:Nat) (P:List Nat) (I:List TI),p<=S.length->P.length=I.length->(∀t∈I,smI t)->∀{p':Nat} {P':List Nat} {I':List TI},nl S en r p P I=.inr (p',P',I')->
  p'<=S.length/\P'.length=I'.length/\I.length<I'.length/\I'.length<=I.length+r/\(∀t∈I',smI t)
 | 0,p,P,I,_,_,_,p',P',I',e=>by cases e
 | r+1,p,P,I,h,hl,hs,p',P',I',e=>by
  rw [nl] at e
  cases h1:pg S en p with
  | inl f=>rw [h1] at e;cases e
  | inr q=>
   obtain ⟨t,a,p1⟩:=q
   obtain ⟨s1,l1,l2⟩:=BT h h1
   rw [h1] at e
   simp only [] at e
   have hs':∀u∈I++[t],smI u:=λu hu=>by
    rcases la.1 hu with h | h
    ·exact hs u h
    ·rw [ta.1 h];exact s1
   split at e
   ·rename_i hh
    obtain ⟨q1,q2,q3,q4,q5⟩:=wy r (p1+1) (P++[a]) (I++[t]) (pY hh) (by simp [hl]) hs' e
    rw [aN,List.length_singleton] at q3 q4
    exact ⟨q1,q2,by omega,by omega,q5⟩
   ·cases e
    exact ⟨l2,by simp [hl],by simp,by simp,hs'⟩
theorem dts3 (S:aa) (p:Nat) (c:UInt8):((S.drop p).take [46,46,c].length==[46,46,c])=(dts (S.drop p)&&decide ((S.drop (p+2)).head?=some c)):=by
 rw [<-mQ]
 generalize S.drop p=l
 unfold dts
 match l with
 | []=>rfl
 | [a]=>simp
 | [a,b]=>simp
 | a::b::d::r=>
  rw [xM]
  simp [and_assoc]
def endC (K:Int):UInt8:=if K=4 then 125 else 93
theorem wg {K:Int} (hK:K=3\/K=4) (n:Nat):fM n K=some ([if K=4 then 123 else 91],[endC K]):=by
 rcases hK with rfl | rfl<;>rfl
theorem Pf (c:UInt8) {S:aa} {p:Nat} (h:p<=S.length) (x1 x4:Int) (x5:Bool) (x6:List Int) (x7:TD) (x8 x9:List TI):
  lf 20000000 [c] x1 S (p:Int) x4 x5 x6 x7 x8 x9=some ([c],x1,dts (S.drop p)&&!decide ((S.drop (p+2)).head?=some c),S,(p:Int),x4,x5,x6,x7,x8,x9):=by
 unfold lf
 rw [IV _ _ _ _ h]
 have hc:cat [46,46] [c]=some [46,46,c]:=rfl
 simp only [ob,hc,IV _ _ _ _ h,dts3]
 show cond (dts (S.drop p)) _ _=_
 cases hd:dts (S.drop p)
 ·rfl
 ·cases decide ((S.drop (p+2)).head?=some c)<;>rfl
theorem tk1 (l:aa) (c:UInt8):l.take [c].length=[c]↔l.head?=some c:=by
 cases l<;>simp
theorem IW (S:aa) (r:DR):OJ S (.inr r)=.inr ((tdR r).1,(tdR r).2.1,(tdR r).2.2.1,(tdR r).2.2.2.1,(tdR r).2.2.2.2.1,(tdR r).2.2.2.2.2.1,(tdR r).2.2.2.2.2.2.1,(tdR r).2.2.2.2.2.2.2.1,(tdR r).2.2.2.2.2.2.2.2.1,(tdR r).2.2.2.2.2.2.2.2.2,((plR r:Nat):Int),S,((enR r:Nat):Int)):=rfl
theorem Pn (b:Bool) (c:UInt8) {S:aa} {p:Nat} (h:p<=S.length) (hS:S.length<100000) (hb:b=true->dts (S.drop p)=true) (x1 x5:Int) (x6:Bool) (x7:List Int) (x8:TD) (x9 x10:List TI):
  lh 20000000 [c] x1 b S (p:Int) x5 x6 x7 x8 x9 x10=some (if b=true then (match jU S (p+2) with
   | .inl f=>.inl ((f.1:Int),(f.2.1:Int),S,(f.2.2:Int))
   | .inr r=>.inr ([c],x1,S,((enR r:Nat):Int),x5,x6,x7,x8,true,tdR r,x9,x10)) else .inr ([c],x1,S,(p:Int),x5,x6,x7,x8,false,d0,x9,x10)):=by
 unfold lh
 cases b
 ·rfl
 ·have hd:=hb rfl
  have hl:=tR hd
  have ht:(S.drop p).take [(46:UInt8),46].length=[46,46]:=by
   obtain ⟨r,hr⟩:=vt.1 hd
   rw [hr];rfl
  rw [aj,Em _ _ _ _ h (by omega) (by simp) (by simp),ae ht,ae rfl]
  show obs (iS 20000000 S ((p+2:Nat):Int)) _ _=_
  rw [HQ S (p+2) hl hS]
  cases jU S (p+2) with
  | inl f=>rfl
  | inr r=>rfl
theorem Ab {α:Type} {I:List α} (h:I.length<=256):Nat.ble (I.length+1) eh=true:=dq (by unfold eh;omega)
abbrev n6 (P:List Nat):List Int:=P.map λk:Nat=>(k:Int)
theorem ML (c:UInt8) {S:aa} {p:Nat} (h:p<=S.length) (hS:S.length<100000) (K:Int) (e:Bool) {P:List Nat} (J:List TI) {I:List TI} (hI:I.length<256) (hP:P.length=I.length):
  eJ 20000000 ([c],S,(p:Int),K,e,n6 P,J,I)=some (match pg S c p with
   | .inl f=>.inr (.inl ((f.1:Int),(f.2.1:Int),S,(f.2.2:Int)))
   | .inr (t,a,p')=>if (S.drop p').head?=some 44 then .inl ([c],S,((p'+1:Nat):Int),K,e,n6 (P++[a]),J,I++[t])
    else .inr (.inr ([c],S,((if dts (S.drop p') then p'+2 else p':Nat):Int),0,d0,0,d0,0,d0,false,false,K,d0,0,d0,0,d0,e,dts (S.drop p'),n6 (P++[a]),J,I++[t]))):=by
 have fin:∀(t:TI) (a p':Nat),p'<=S.length->(ob (aJ 20000000 [44] S (p':Int)) (u3 λv35 v36 v37=>(cond v35 (some (.inl ([c],v36,v37,K,e,(n6 P++([(a:Int)]:List (Int))),J,(I++([t]:List TI))))) (ob (aJ 20000000 [46,46] v36 v37) (u3 λv38 v39 v40=>(cond v38 (some (.inr (.inr ([c],v39,v40,0,d0,0,d0,0,d0,false,false,K,d0,0,d0,0,d0,e,true,(n6 P++([(a:Int)]:List (Int))),J,(I++([t]:List TI)))))) (some (.inr (.inr ([c],v39,v40,0,d0,0,d0,0,d0,false,false,K,d0,0,d0,0,d0,e,false,(n6 P++([(a:Int)]:List (Int))),J,(I++([t]:List TI))))))))))):Option ((aa×aa×Int×Int×Bool×List (Int)×List TI×List TI)⊕((Int×Int×aa×Int)⊕(aa×aa×Int×Int×TD×Int×TD×Int×TD×Bool×Bool×Int×TD×Int×TD×Int×TD×Bool×Bool×List (Int)×List TI×List TI)))) =
   some (if (S.drop p').head?=some 44 then .inl ([c],S,((p'+1:Nat):Int),K,e,n6 (P++[a]),J,I++[t])
    else .inr (.inr ([c],S,((if dts (S.drop p') then p'+2 else p':Nat):Int),0,d0,0,d0,0,d0,false,false,K,d0,0,d0,0,d0,e,dts (S.drop p'),n6 (P++[a]),J,I++[t]))):=by
  intro t a p' hp'
  have hn:n6 (P++[a])=n6 P++[(a:Int)]:=by simp [n6]
  rw [qp _ _ _ _ hp' (by omega),hn]
  simp only [ob,u3,u2,tk1]
  by_cases hc:(S.drop p').head?=some 44
  ·rw [ae hc,ae hc];rfl
  ·rw [ab hc,ab hc]
   simp only [af]
   rw [qp _ _ _ _ hp' (by omega)]
   cases hd:dts (S.drop p')
   ·rw [ab (show ¬(S.drop p').take [(46:UInt8),46].length=[46,46] from λh=>by unfold dts at hd;rw [show (S.drop p').take 2=[46,46] from h] at hd;cases hd)]
    rfl
   ·rw [ae (show (S.drop p').take [(46:UInt8),46].length=[46,46] from eq_of_beq hd)]
    rfl
 unfold eJ
 simp only [u8,u7,u6,u5,u4,u3,u2]
 rw [show (len I==256)=false from by show (((I.length:Nat):Int)==256)=false;simp;omega,af,HQ S p h hS]
 unfold pg
 cases h1:jU S p with
 | inl f=>rfl
 | inr r=>
  obtain ⟨s1,_,l1,l2⟩:=um h h1
  rw [IW]
  simp only [obs,sm,ob]
  rw [show (d4 (d8 ((tdR r).1,(tdR r).2.1,(tdR r).2.2.1,(tdR r).2.2.2.1,(tdR r).2.2.2.2.1,(tdR r).2.2.2.2.2.1,(tdR r).2.2.2.2.2.2.1,(tdR r).2.2.2.2.2.2.2.1,(tdR r).2.2.2.2.2.2.2.2.1,(tdR r).2.2.2.2.2.2.2.2.2,((plR r:Nat):Int),S,((enR r:Nat):Int))))=((enR r:Nat):Int) from rfl,Pf c l2]
  simp only [u11,u10,u9,u8,u7,u6,u5,u4,u3,u2]
  rw [Pn _ c l2 hS (λh=>by simp at h;exact h.1)]
  have hb:(dts (S.drop (enR r))&&!decide ((S.drop (enR r+2)).head?=some c))=true↔(dts (S.drop (enR r))=true/\(S.drop (enR r+2)).head?≠some c):=by simp
  by_cases hd:dts (S.drop (enR r))=true/\(S.drop (enR r+2)).head?≠some c
  ·rw [ae (hb.2 hd),ae hd]
   cases h2:jU S (enR r+2) with
   | inl f=>rfl
   | inr r2=>
    obtain ⟨s2,_,l3,l4⟩:=um (tR hd.1) h2
    simp only [u12,u11,u10,u9,u8,u7,u6,u5,u4,u3,u2]
    rw [Ab (by omega),Ab (by simp;omega)]
    exact fin (mkI (tdR r) true (tdR r2)) (plR r) (enR r2) l4
  ·rw [ab (λh=>hd (hb.1 h)),ab hd]
   simp only [u12,u11,u10,u9,u8,u7,u6,u5,u4,u3,u2]
   rw [Ab (by omega),Ab (by simp;omega)]
   exact fin (mkI (tdR r) false d0) (plR r) (enR r) l2
theorem NS (c:UInt8) (S:aa) (p K:Int) (e:Bool) (P:List Int) (J:List TI) {I:List TI} (hI:I.length=256):
  eJ 20000000 ([c],S,p,K,e,P,J,I)=some (.inr (.inl (p,3,S,p))):=by
 unfold eJ
 simp only [u8,u7,u6,u5,u4,u3,u2]
 rw [show (len I==256)=true from by show (((I.length:Nat):Int)==256)=true;rw [hI];rfl]
 rfl
def Q9 (S:aa) (c:UInt8) (K:Int) (e:Bool) (J:List TI):(Nat×Nat×Nat)⊕(Nat×List Nat×List TI)->(Int×Int×aa×Int)⊕(aa×aa×Int×Int×TD×Int×TD×Int×TD×Bool×Bool×Int×TD×Int×TD×Int×TD×Bool×Bool×List (Int)×List TI×List TI)
 | .inl f=>.inl ((f.1:Int),(f.2.1:Int),S,(f.2.2:Int))
 | .inr (p,P,I)=>.inr ([c],S,((if dts (S.drop p) then p+2 else p:Nat):Int),0,d0,0,d0,0,d0,false,false,K,d0,0,d0,0,d0,e,dts (S.drop p),n6 P,J,I)
theorem NA (c:UInt8) {S:aa} (hS:S.length<100000) (K:Int) (e:Bool) (J:List TI):∀(r p:Nat) (P:List Nat) (I:List TI),I.length+r=256->p<=S.length->P.length=I.length->∀N,r<N->
  aw (eJ 20000000) N ([c],S,(p:Int),K,e,n6 P,J,I)=some (Q9 S c K e J (nl S c r p P I)):=by
 intro r
 induction r with
 | zero=>
  intro p P I hr hp hl N hN
  obtain ⟨N,rfl⟩:∃k,N=k+1:=⟨N - 1,by omega⟩
  rw [aw,NS c S _ K e _ J (by omega)]
  rfl
 | succ r ih=>
  intro p P I hr hp hl N hN
  obtain ⟨N,rfl⟩:∃k,N=k+1:=⟨N - 1,by omega⟩
  rw [aw,ML c hp hS K e J (by omega) hl,nl]
  cases h1:pg S c p with
  | inl f=>rfl
  | inr q=>
   obtain ⟨t,a,p'⟩:=q
   obtain ⟨_,l1,l2⟩:=BT hp h1
   simp only []
   by_cases hc:(S.drop p').head?=some 44
   ·rw [ae hc,ae hc]
    exact ih (p'+1) (P++[a]) (I++[t]) (by simp;omega) (pY hc) (by simp [hl]) N (by omega)
   ·rw [ab hc,ab hc]
    rfl
theorem wo {X X' Y Y':Type} {s:X->Option (X⊕Y)} {s':X'->Option (X'⊕Y')} (f:X->X') (g:Y->Y') (h:∀x,s' (f x)=(s x).map (Sum.map f g)):∀(n:Nat) (x:X),aw s' n (f x)=(aw s n x).map g
 | 0,_=>rfl
 | n+1,x=>by
  rw [aw,aw,h]
  cases s x with
  | none=>rfl
  | some z=>
   cases z with
   | inl y=>exact wo f g h n y
   | inr y=>rfl
theorem MQ (n:Nat) (K:Int) (D:TD) (KF:Int) (DF:TD) (KT:Int) (DT:TD) (c:Nat) (e l:Bool) (L:List TI):mw n K D KF DF KT DT L.length c e l L=kW n K D KF DF KT DT e l L:=by
 unfold mw kW
 have:=wo (s:=eT n) (s':=js n) (u12 λx0 x1 x2 x3 x4 x5 x6 x7 x8 x9 x10 x11=>(x2.length,c,x0,x1,x2,x3,x4,x5,x6,x7,x8,x2.length,c,x9,x10,x11)) id (by
  rintro ⟨x0,x1,x2,x3,x4,x5,x6,x7,x8,x9,x10,x11⟩
  unfold eT js
  simp only [u16,u15,u14,u13,u12,u11,u10,u9,u8,u7,u6,u5,u4,u3,u2]
  cases decide (x1<x0)
  ·rfl
  ·simp only [aj]
   cases ix x2.length x1 with
   | none=>rfl
   | some i=>
    simp only [ob]
    cases x2[i]? with
    | none=>rfl
    | some t=>
     simp only [ob]
     cases fv n (iF t) (d8 t).2.2.1 (d8 t).2.2.2 x3 with
     | none=>rfl
     | some v=>
      simp only [ob]
      rw [show lQ n v 10 10 10 (iF t) (d8 t).2.2.1 (d8 t).2.2.2 x3 x4 x5 x6 x7 x8 x2.length c x9 x10 x1 x11 x2=fT n v 10 10 10 (iF t) (d8 t).2.2.1 (d8 t).2.2.2 x3 x4 x5 x6 x7 x8 x9 x10 x1 x11 x2 from rfl]
      cases fT n v 10 10 10 (iF t) (d8 t).2.2.1 (d8 t).2.2.2 x3 x4 x5 x6 x7 x8 x9 x10 x1 x11 x2 with
      | none=>rfl
      | some z=>
       simp only [ob]
       cases (z != 0)<;>rfl) n (len L,0,L,K,D,KF,DF,KT,DT,e,l,w64 (len L - 1))
 simp only [u12,u11,u10,u9,u8,u7,u6,u5,u4,u3,u2] at this
 rw [show (L.length,c,((L.length:Nat):Int),(0:Int),L,K,D,KF,DF,KT,DT,L.length,c,e,l,w64 (((L.length:Nat):Int) - 1))=(L.length,c,len L,0,L,K,D,KF,DF,KT,DT,L.length,c,e,l,w64 (len L - 1)) from rfl,this]
 rw [Option.map_id]
 rfl
theorem MP (n:Nat) (K:Int) (D:TD) (KF:Int) (DF:TD) (KT:Int) (DT:TD) (c:Nat) (e l:Bool) (L:List TI):gK n K D KF DF KT DT L.length c e l L=kU n K D KF DF KT DT e l L:=by
 unfold gK kU
 rw [MQ,show nI n K D KF DF KT DT L.length c e l L=lw n K D KF DF KT DT e l L from rfl]
theorem F4 {K:Int} {D:TD} {KF:Int} {DF:TD} {KT:Int} {DT:TD} {e l:Bool} {L:List TI} (h:smE D DF DT L) (c:Nat):
  gK 20000000 K D KF DF KT DT L.length c e l L=some (gD K D KF DF KT DT e l L):=(MP _ _ _ _ _ _ _ _ _ _ _).trans (DH h)
noncomputable def setE (K:Int) (e l:Bool) (I:List TI):Int×Int:=gD K d0 0 d0 0 d0 e l I
noncomputable def endL (S:aa) (K:Int) (e:Bool) (p:Nat) (P:List Nat) (I:List TI):(Nat×Nat×Nat)⊕(Int×Bool×Bool×List TI×Nat):=
 if (S.drop (if dts (S.drop p) then p+2 else p)).head?=some (endC K) then
  if (setE K e (dts (S.drop p)) I).2=0 then .inr (K,e,dts (S.drop p),I,(if dts (S.drop p) then p+2 else p)+1)
  else .inl (P.getD (setE K e (dts (S.drop p)) I).1.toNat 0,10,(if dts (S.drop p) then p+2 else p)+1)
 else .inl ((if dts (S.drop p) then p+2 else p),5,(if dts (S.drop p) then p+2 else p))
noncomputable def xa (S:aa) (a:Nat) (K:Int):(Nat×Nat×Nat)⊕(Int×Bool×Bool×List TI×Nat):=
 match nl S (endC K) 256 (if dts (S.drop (a+1)) then a+3 else a+1) [] [] with
 | .inl f=>.inl f
 | .inr (p,P,I)=>endL S K (dts (S.drop (a+1))) p P I
noncomputable def xc (S:aa) (a:Nat):(Nat×Nat×Nat)⊕(Int×Bool×Bool×List TI×Nat):=
 if (S.drop a).head?=some 91 then xa S a 3 else if (S.drop a).head?=some 123 then xa S a 4 else .inl (a,5,a)
theorem MX {K:Int} (hK:K=3\/K=4) {e l:Bool} {I:List TI} (h1:1<=I.length):∃i:Nat,(setE K e l I).1=(i:Int)/\i<I.length:=by
 have hi:∃i:Nat,(so K e l I).1=(i:Int)/\i<I.length:=by
  unfold so
  have:∀(J:List TI) (k:Nat) (p:Nat×Int),lR (errI K e l I.length) k J=some p->p.1<k+J.length:=by
   intro J
   induction J with
   | nil=>intro k p h;cases h
   | cons t r ih=>
    intro k p h
    rw [lR] at h
    split at h
    ·cases h;simp
    ·have:=ih (k+1) p h
     simp;omega
  cases hs:lR (errI K e l I.length) 0 I with
  | none=>exact ⟨0,rfl,by omega⟩
  | some p=>exact ⟨p.1,rfl,by have:=this I 0 p hs;omega⟩
 unfold setE gD
 rw [ab (by omega)]
 split
 ·exact ⟨0,rfl,by omega⟩
 ·rw [ab (by omega),ab (by omega),ab (by omega)]
  split
  ·exact ⟨0,rfl,by omega⟩
  ·exact hi
theorem MI {I:List TI} (h:∀t∈I,smI t):smE d0 d0 d0 I:=⟨tn,tn,tn,h⟩
theorem Rv (n:Nat) (I:List TI):bz n I=some (I.length,I.length):=by
 unfold bz
 rw [dG (aW _)]
 show ob (bx I.length ((I.length:Nat):Int)) _=_
 rw [dG (aW _)]
 rfl
def Id (S:aa):(Nat×Nat×Nat)⊕(Int×Bool×Bool×List TI×Nat)->(Int×Int×aa×Int)⊕(Int×TD×Int×TD×Int×TD×Nat×Nat×Bool×Bool×aa×Int×List TI)
 | .inl f=>.inl ((f.1:Int),(f.2.1:Int),S,(f.2.2:Int))
 | .inr (K,e,l,I,p)=>.inr (K,d0,0,d0,0,d0,I.length,I.length,e,l,S,(p:Int),I)
theorem Py {S:aa} (hS:S.length<100000) {K:Int} (hK:K=3\/K=4) (e:Bool) {p:Nat} (hp:p<=S.length) {P:List Nat} {I:List TI} (hP:P.length=I.length) (h1:1<=I.length) (hs:∀t∈I,smI t):
  (obs (da 20000000 [endC K] S ((if dts (S.drop p) then p+2 else p:Nat):Int)) (u2 λv33 v34=>(ob (bz 20000000 I) (u2 λv35 v36=>(ob (gK 20000000 K d0 0 d0 0 d0 v35 v36 e (dts (S.drop p)) I) (u2 λv37 v38=>(cond (v38 != 0) (ob (ix (List.length (n6 P)) v37) λv39=>(ob ((n6 P)[v39]?) λv40=>(ob (be 20000000 v40 10 v33 v34) (u2 λv41 v42=>(some (.inl (v41,v42,v33,v34))))))) (some (.inr (K,d0,0,d0,0,d0,v35,v36,e,(dts (S.drop p)),v33,v34,I))))))))) (u4 λv43 v44 v45 v46=>(some (.inl (v43,v44,v45,v46))))) =
   some (Id S (endL S K e p P I)):=by
 have hq:(if dts (S.drop p) then p+2 else p:Nat)<=S.length:=by
  split
  ·rename_i h;exact tR h
  ·exact hp
 unfold endL
 generalize (if dts (S.drop p) then p+2 else p:Nat)=q at *
 generalize dts (S.drop p)=l
 rw [Em _ _ _ _ hq (by omega) (by simp) (by simp)]
 simp only [tk1]
 by_cases hc:(S.drop q).head?=some (endC K)
 ·rw [ae hc,ae hc]
  simp only [obs,sm,ob,u2,Rv,F4 (MI hs)]
  obtain ⟨i,e1,e2⟩:=MX hK (e:=e) (l:=l) h1
  show cond ((setE K e l I).2 != 0) (ob (ix (n6 P).length (setE K e l I).1) _) _=_
  by_cases h0:(setE K e l I).2=0
  ·rw [ae h0,show ((setE K e l I).2 != 0)=false from by simp [h0]]
   rfl
  ·have hi:i<(n6 P).length:=by simp [n6];omega
   rw [ab h0,show ((setE K e l I).2 != 0)=true from by simp [h0],e1,cT hi]
   have hg:(n6 P)[i]?=some ((P.getD i 0:Nat):Int):=by
    have hi':i<P.length:=by omega
    simp [n6,bm hi']
   simp only [aj,ob,hg]
   rfl
 ·rw [ab hc,ab hc]
  have:lcp (S.drop q) [endC K]=0:=by
   cases hd:S.drop q with
   | nil=>rfl
   | cons a r=>
    rw [hd] at hc
    simp only [lcp]
    rw [show (a==endC K)=false from by rw [aM];rintro rfl;exact hc rfl]
    rfl
  rw [this]
  rfl
theorem Ng {S:aa} {a:Nat} (h:a<=S.length) (hS:S.length<100000):qo 20000000 S (a:Int)=some (Id S (xc S a)):=by
 have main:∀(K:Int) (hK:K=3\/K=4) (ha:a+1<=S.length),(ob (my 20000000 (K==4) S ((a+1:Nat):Int) ([]:List TI) ([]:List TI)) (u5 λv7 v8 v9 v10 v11=>(ob (fM 20000000 v9) (u2 λ_ v12=>(ob (aJ 20000000 [46,46] v7 v8) (u3 λv13 v14 v15=>(obs (aw (eJ 20000000) 20000000 (v12,v14,v15,v9,v13,([]:List (Int)),v10,v11)) (u4 λv16 v17 v18 v19=>(some (.inl (v16,v17,v18,v19)))) (u22 λv20 v21 v22 _ _ _ _ _ _ _ _ v23 v24 v25 v26 v27 v28 v29 v30 v31 _ v32=>(obs (da 20000000 v20 v21 v22) (u2 λv33 v34=>(ob (bz 20000000 v32) (u2 λv35 v36=>(ob (gK 20000000 v23 v24 v25 v26 v27 v28 v35 v36 v29 v30 v32) (u2 λv37 v38=>(cond (v38 != 0) (ob (ix (List.length v31) v37) λv39=>(ob (v31[v39]?) λv40=>(ob (be 20000000 v40 10 v33 v34) (u2 λv41 v42=>(some (.inl (v41,v42,v33,v34))))))) (some (.inr (v23,v24,v25,v26,v27,v28,v35,v36,v29,v30,v33,v34,v32))))))))) (u4 λv43 v44 v45 v46=>(some (.inl (v43,v44,v45,v46))))))))))))) =
   some (Id S (xa S a K)):=by
  intro K hK ha
  have hj:my 20000000 (K==4) S ((a+1:Nat):Int) ([]:List TI) ([]:List TI)=some (S,((a+1:Nat):Int),K,[],[]):=by
   rcases hK with rfl | rfl<;>rfl
  have ht:aJ 20000000 [46,46] S ((a+1:Nat):Int)=some (dts (S.drop (a+1)),S,((if dts (S.drop (a+1)) then a+3 else a+1:Nat):Int)):=by
   rw [qp _ _ _ _ ha (by omega)]
   cases hd:dts (S.drop (a+1))
   ·rw [ab (show ¬(S.drop (a+1)).take [(46:UInt8),46].length=[46,46] from λh=>by unfold dts at hd;rw [show (S.drop (a+1)).take 2=[46,46] from h] at hd;cases hd)]
    rfl
   ·rw [ae (show (S.drop (a+1)).take [(46:UInt8),46].length=[46,46] from eq_of_beq hd)]
    rfl
  have hp:(if dts (S.drop (a+1)) then a+3 else a+1:Nat)<=S.length:=by
   split
   ·rename_i h;have:=tR h;omega
   ·exact ha
  have hl:=NA (endC K) hS K (dts (S.drop (a+1))) [] 256 (if dts (S.drop (a+1)) then a+3 else a+1) [] [] (by simp) hp rfl 20000000 (by omega)
  simp only [hj,wg hK,ht,ob,u5,u4,u3,u2]
  rw [show aw (eJ 20000000) 20000000 ([endC K],S,((if dts (S.drop (a+1)) then a+3 else a+1:Nat):Int),K,dts (S.drop (a+1)),([]:List Int),([]:List TI),([]:List TI))=_ from hl]
  unfold xa
  cases hr:nl S (endC K) 256 (if dts (S.drop (a+1)) then a+3 else a+1) [] [] with
  | inl f=>rfl
  | inr q=>
   obtain ⟨p,P,I⟩:=q
   obtain ⟨q1,q2,q3,q4,q5⟩:=wy 256 _ [] [] hp rfl (λt ht=>by cases ht) hr
   have q3':1<=I.length:=by rw [aY] at q3;omega
   exact Py hS hK (dts (S.drop (a+1))) q1 q2 q3' q5
 unfold qo xc
 rw [zQ _ _ _ _ h (by omega)]
 cases hd:S.drop a with
 | nil=>rfl
 | cons c r=>
  have ha:a+1<=S.length:=by
   have:=dP List.length hd
   simp at this;omega
  simp only [yx,aq]
  by_cases h1:c=91
  ·subst h1
   rw [ae rfl]
   exact main 3 (.inl rfl) ha
  ·by_cases h2:c=123
   ·subst h2
    rw [ae rfl]
    exact main 4 (.inr rfl) ha
   ·rw [ab h1,ab h2]
    have:hasB [91,123] c=false:=by
     unfold hasB
     simp only [HX,List.any_nil,Hy,qO,aM]
     exact ⟨λh=>h1 h.symm,λh=>h2 h.symm⟩
    rw [this]
    rfl
def rat (l:aa):Nat:=match l with | c::_=>c.toNat | []=>0
theorem RW (n:Nat) (S:aa) (p:Nat):kh n S (p:Int)=some ((rat (S.drop p):Nat):Int):=by
 unfold kh
 rw [ar (show (p:Int)>=0 by omega),aj]
 by_cases h:p<S.length
 ·have hc:=bm h
  rw [ar (show (p:Int)<len S by show (p:Int)<((S.length:Nat):Int);omega),aj,iw hc,fi hc]
  rfl
 ·rw [au (show ¬(p:Int)<len S by show ¬(p:Int)<((S.length:Nat):Int);omega),af,kB (by omega)]
  rfl
theorem Fv {S:aa} {en:UInt8} {p:Nat} (h:p<=S.length) {f:Nat×Nat×Nat} (hr:pg S en p=.inl f):f.2.1≠0:=by
 unfold pg at hr
 cases h1:jU S p with
 | inl g=>rw [h1] at hr;cases hr;exact BK (k:=f.1) (E:=f.2.1) (p:=f.2.2) h h1
 | inr r=>
  rw [h1] at hr
  simp only [] at hr
  split at hr
  ·rename_i hd
   cases h2:jU S (enR r+2) with
   | inl g=>rw [h2] at hr;cases hr;exact BK (k:=f.1) (E:=f.2.1) (p:=f.2.2) (tR hd.1) h2
   | inr r2=>rw [h2] at hr;cases hr
  ·cases hr
theorem xV {S:aa} {en:UInt8}:∀(r p:Nat) (P:List Nat) (I:List TI),p<=S.length->∀{f:Nat×Nat×Nat},nl S en r p P I=.inl f->f.2.1≠0
 | 0,p,P,I,_,f,e=>by cases e;simp
 | r+1,p,P,I,h,f,e=>by
  rw [nl] at e
  cases h1:pg S en p with
  | inl g=>rw [h1] at e;cases e;exact Fv h h1
  | inr q=>
   obtain ⟨t,a,p1⟩:=q
   rw [h1] at e
   simp only [] at e
   split at e
   ·rename_i hh
    exact xV r (p1+1) _ _ (pY hh) e
   ·cases e
structure SetOK (S:aa) (K:Int) (e l:Bool) (I:List TI) (p:Nat):Prop where
 kind:K=3\/K=4
 sm:∀t∈I,smI t
 ok:(setE K e l I).2=0
 one:1<=I.length
 most:I.length<=256
 le:p<=S.length
theorem La {S:aa} {a:Nat} (h:a<=S.length) {K:Int} {e l:Bool} {I:List TI} {p:Nat} (hr:xc S a=.inr (K,e,l,I,p)):SetOK S K e l I p:=by
 have main:∀K':Int,K'=3\/K'=4->a+1<=S.length->xa S a K'=.inr (K,e,l,I,p)->SetOK S K e l I p:=by
  intro K' hK ha hr
  unfold xa at hr
  have hp:(if dts (S.drop (a+1)) then a+3 else a+1:Nat)<=S.length:=by
   split
   ·rename_i h;have:=tR h;omega
   ·exact ha
  cases h1:nl S (endC K') 256 (if dts (S.drop (a+1)) then a+3 else a+1) [] [] with
  | inl f=>rw [h1] at hr;cases hr
  | inr q=>
   obtain ⟨p',P,J⟩:=q
   obtain ⟨q1,q2,q3,q4,q5⟩:=wy 256 _ [] [] hp rfl (λt ht=>by cases ht) h1
   rw [h1] at hr
   simp only [] at hr
   unfold endL at hr
   generalize (if dts (S.drop p') then p'+2 else p':Nat)=q' at hr
   split at hr
   ·rename_i hc
    split at hr
    ·rename_i h0
     cases hr
     rw [aY] at q3 q4
     exact ⟨hK,q5,h0,by omega,by omega,pY hc⟩
    ·cases hr
   ·cases hr
 unfold xc at hr
 split at hr
 ·rename_i h1;exact main 3 (.inl rfl) (pY h1) hr
 ·split at hr
  ·rename_i h1;exact main 4 (.inr rfl) (pY h1) hr
  ·cases hr
theorem GK {S:aa} {a:Nat} (h:a<=S.length) {f:Nat×Nat×Nat} (hr:xc S a=.inl f):f.2.1≠0:=by
 have main:∀K':Int,a+1<=S.length->xa S a K'=.inl f->f.2.1≠0:=by
  intro K' ha hr
  unfold xa at hr
  have hp:(if dts (S.drop (a+1)) then a+3 else a+1:Nat)<=S.length:=by
   split
   ·rename_i h;have:=tR h;omega
   ·exact ha
  cases h1:nl S (endC K') 256 (if dts (S.drop (a+1)) then a+3 else a+1) [] [] with
  | inl g=>rw [h1] at hr;cases hr;exact xV 256 _ _ _ hp h1
  | inr q=>
   obtain ⟨p',P,J⟩:=q
   rw [h1] at hr
   simp only [] at hr
   unfold endL at hr
   generalize (if dts (S.drop p') then p'+2 else p':Nat)=q' at hr
   split at hr
   ·split at hr
    ·cases hr
    ·cases hr;simp
   ·cases hr;simp
 unfold xc at hr
 split at hr
 ·rename_i h1;exact main 3 (pY h1) hr
 ·split at hr
  ·rename_i h1;exact main 4 (pY h1) hr
  ·cases hr;simp
noncomputable def D2 (S:aa):(Nat×Nat)⊕(Int×Bool×Bool×List TI):=match xc S 0 with
 | .inl f=>.inl (f.1,f.2.1)
 | .inr (K,e,l,I,p)=>if p<S.length then .inl (p,5) else .inr (K,e,l,I)
def OP:(Nat×Nat)⊕(Int×Bool×Bool×List TI)->(Int×TD×Int×TD×Int×TD×Bool×Bool×Int×Int×List TI)⊕(Int×TD×Int×TD×Int×TD×Nat×Nat×Bool×Bool×Int×Int×List TI)
 | .inl f=>.inl (0,d0,0,d0,0,d0,false,false,(f.1:Int),(f.2:Int),[])
 | .inr (K,e,l,I)=>.inr (K,d0,0,d0,0,d0,I.length,I.length,e,l,0,0,I)
theorem Er {S:aa} (hS:S.length<100000):dA 20000000 S=some (OP (D2 S)):=by
 have hr:=Ng (S:=S) (a:=0) (by omega) hS
 unfold dA fR o6 D2
 rw [show (0:Int)=((0:Nat):Int) from rfl,hr]
 cases h:xc S 0 with
 | inl f=>
  have hE:=GK (by omega) h
  simp only [Id,obs,sm,ob,u13,u12,u11,u10,u9,u8,u7,u6,u5,u4,u3,u2]
  rw [show (((f.2.1:Nat):Int) != ((0:Nat):Int))=true from by simp;omega]
  rfl
 | inr q=>
  obtain ⟨K,e,l,I,p⟩:=q
  have ok:=La (by omega) h
  simp only [Id,obs,sm,ob,u13,u12,u11,u10,u9,u8,u7,u6,u5,u4,u3,u2]
  by_cases hp:p<S.length
  ·rw [ae hp,ar (show (p:Int)<((S.length:Nat):Int) by omega)]
   rfl
  ·rw [ab hp,au (show ¬(p:Int)<((S.length:Nat):Int) by omega)]
   rfl
def brk (c:UInt8):Bool:=c==33||c==44||c==46||c==47||c==91||c==93||c==123||c==125
theorem MT:∀c,(!brk c||(!isYC c&&(!isMk c&&(!(c==45)&&!isDX c))))=true:=mP (λc=>!brk c||(!isYC c&&(!isMk c&&(!(c==45)&&!isDX c)))) (by decide +kernel)
theorem Dw {c:UInt8} (h:brk c=true):isYC c=false/\isMk c=false/\(c==45)=false/\isDX c=false:=by
 have:=MT c
 rw [h] at this
 simpa [az] using this
theorem OM {c:UInt8} (h:isDX c=true):brk c=false:=by
 cases hb:brk c
 ·rfl
 ·rw [(Dw hb).2.2.2] at h;cases h
def endT (l:aa):Prop:=∀c,l.head?=some c->brk c=true
theorem Nc {l:aa} (h:endT l):cS isYC l/\cS isMk l/\cS (λc=>c==45) l:=⟨λc hc=>(Dw (h c hc)).1,λc hc=>(Dw (h c hc)).2.1,λc hc=>(Dw (h c hc)).2.2.1⟩
theorem sR {c:UInt8} {l:aa} (h:brk c=true):endT (c::l):=λa ha=>by
 simp only [yx,aq] at ha
 rw [<-ha];exact h
theorem Gs {g l:Bool} {d:aa} {x s:Nat} (h:okY g l d (x:Int) (s:Int)) (r:aa):cS brk (iG g l d (x:Int) (s:Int)++r):=by
 have hl:d≠[]:=by
  have:=(ir h).2.2.2.2.1
  rintro rfl
  simp at this
 rw [kN]
 cases l with
 | true=>exact dS (by decide)
 | false=>
  cases g with
  | true=>exact dS (by decide)
  | false=>
   simp only [bV,aD,dR,iB]
   exact us hl (L8 h) (λc=>OM)
def rI (x:TD):aa:=rf x.1 x.2.1 x.2.2.1 x.2.2.2.1 x.2.2.2.2.1 x.2.2.2.2.2.1 x.2.2.2.2.2.2.1 x.2.2.2.2.2.2.2.1.toNat x.2.2.2.2.2.2.2.2.1.toNat x.2.2.2.2.2.2.2.2.2.toNat
theorem vG {x:TD} (hs:smT x) (hc:cF x=0):∃(g l:Bool) (dg:aa) (e q:Nat) (m d:aa) (a b c:Nat),x=(g,l,dg,(e:Int),(q:Int),m,d,(a:Int),(b:Int),(c:Int))/\OkD g l dg e q m d a b c:=by
 have h:=oq hc
 obtain ⟨g,l,dg,e,q,m,d,k0,k1,k2⟩:=x
 obtain ⟨e',q',a,b,c,h1,h2,h3,h4,h5,h6⟩:=A3 hs.2.2.2.1 hs.2.2.2.2.1 hs.2.2.2.2.2 h
 simp only at h1 h2 h3 h4 h5
 subst h1 h2 h3 h4 h5
 exact ⟨_,_,_,_,_,_,_,_,_,_,rfl,h6⟩
theorem dfT {x:TD} (hs:smT x) (hc:cF x=0):ap10 (eU 20000000) x=some (rI x,0):=by
 have:=J2 19999700 x.1 x.2.1 x.2.2.1 x.2.2.2.1 x.2.2.2.2.1 x.2.2.2.2.2.1 x.2.2.2.2.2.2.1 x.2.2.2.2.2.2.2.1 x.2.2.2.2.2.2.2.2.1 x.2.2.2.2.2.2.2.2.2 hs.1 hs.2.1 hs.2.2.2.1 hs.2.2.2.2.1 hs.2.2.2.2.2
 rw [ae (oq hc)] at this
 exact this
theorem rfT {x:TD} (hs:smT x) (hc:cF x=0):ap10 (d7 20000000) x=some (rI x):=
 H5 19999700 hs.2.2.2.1 hs.2.2.2.2.1 hs.2.2.2.2.2 (oq hc)
theorem nK {x:TD} (hs:smT x) (hc:cF x=0):(rI x).length<=37:=by
 obtain ⟨g,l,dg,e,q,m,d,a,b,c,rfl,ok⟩:=vG hs hc
 exact Ht ok
theorem uS {x:TD} (hs:smT x) (hc:cF x=0) (r:aa):cS brk (rI x++r):=by
 obtain ⟨g,l,dg,e,q,m,d,a,b,c,rfl,ok⟩:=vG hs hc
 show cS brk (rf g l dg (e:Int) (q:Int) m d a b c++r)
 unfold rf cw
 rw [iB,iB,iB]
 exact I9 _ (by decide) (by decide) (by decide) (Gs ok.yr _)
theorem Ff {l:aa} (h:cS brk l):dts l=false:=by
 cases hd:dts l
 ·rfl
 ·obtain ⟨r,rfl⟩:=vt.1 hd
  exact absurd (h 46 rfl) (by decide)
theorem Jp {x:TD} (hs:smT x) (hc:cF x=0) {S:aa} {a:Nat} {post:aa} (h:S.drop a=rI x++post) (hp:endT post):∃r,jU S a=.inr r/\tdR r=x/\enR r=a+(rI x).length:=by
 obtain ⟨g,l,dg,e,q,m,d,k0,k1,k2,rfl,ok⟩:=vG hs hc
 obtain ⟨p1,p2,p3⟩:=Nc hp
 obtain ⟨P,hr⟩:=FU ok (S:=S) (a:=a) (post:=post) h p1 p2 p3
 refine ⟨(g,l,dg,e,q,m,d,(k0,k1,k2),P,a+(rf g l dg (e:Int) (q:Int) m d k0 k1 k2).length),?_,rfl,rfl⟩
 unfold jU
 rw [hr]
 have hk:chkR (g,l,dg,e,q,m,d,(k0,k1,k2),P,a+(rf g l dg (e:Int) (q:Int) m d k0 k1 k2).length)=0:=by
  unfold chkR
  simp only []
  have:chkF g l dg (e:Int) (q:Int) m d (k0:Int) (k1:Int) (k2:Int)=0:=hc
  rw [this];rfl
 simp only []
 rw [ae hk]
structure OkI (t:TI):Prop where
 sm:smI t
 a:cF (iF t)=0
 b:rT t=true->cF (iT t)=0
 n:rT t=false->iT t=d0
def ct (t:TI):aa:=if rT t then rI (iF t)++([46,46]++rI (iT t)) else rI (iF t)
theorem sE {t:TI} (h:OkI t):(ct t).length<=76:=by
 have h1:=nK h.sm.1 h.a
 unfold ct
 split
 ·rename_i hr
  have h2:=nK h.sm.2 (h.b hr)
  simp only [aN,aB,aY]
  omega
 ·omega
theorem Gm {t:TI} (h:OkI t) (r:aa):cS brk (ct t++r):=by
 unfold ct
 split
 ·rw [iB];exact uS h.sm.1 h.a _
 ·exact uS h.sm.1 h.a _
theorem vq {t:TI} (ok:OkI t) {en:UInt8} (hen:brk en=true) {S:aa} {p:Nat} {post:aa} (h:S.drop p=ct t++post) (hp:endT post) (hq:dts post=true->(post.drop 2).head?=some en):
  ∃a,pg S en p=.inr (t,a,p+(ct t).length):=by
 unfold ct at h ⊢
 unfold pg
 cases hr:rT t with
 | true=>
  rw [hr,ae rfl,iB,iB] at h
  obtain ⟨r,r1,r2,r3⟩:=Jp ok.sm.1 ok.a h (sR (by decide))
  have e1:S.drop (enR r)=[46,46]++(rI (iT t)++post):=by rw [r3];exact ge h
  have e2:S.drop (enR r+2)=rI (iT t)++post:=ge (u:=[46,46]) e1
  have hd:dts (S.drop (enR r))=true:=by rw [e1];rfl
  have hn:(S.drop (enR r+2)).head?≠some en:=by
   rw [e2]
   intro hh
   have:=uS ok.sm.2 (ok.b hr) post en hh
   rw [hen] at this;cases this
  obtain ⟨r',s1,s2,s3⟩:=Jp ok.sm.2 (ok.b hr) e2 hp
  refine ⟨plR r,?_⟩
  rw [r1]
  simp only []
  rw [ae ⟨hd,hn⟩,s1]
  simp only [aO]
  rw [r2,s2,s3,r3]
  have:mkI (iF t) true (iT t)=t:=by rw [<-hr]
  rw [this]
  have:p+(rI (iF t)).length+2+(rI (iT t)).length=p+(rI (iF t)++([46,46]++rI (iT t))).length:=by simp only [aN,aB,aY];omega
  rw [this]
 | false=>
  rw [hr] at h
  simp only [bV,aD] at h
  obtain ⟨r,r1,r2,r3⟩:=Jp ok.sm.1 ok.a h hp
  have e1:S.drop (enR r)=post:=by rw [r3];exact ge h
  refine ⟨plR r,?_⟩
  rw [r1]
  simp only []
  rw [ab,r2,r3]
  ·have:mkI (iF t) false d0=t:=by rw [<-hr,<-ok.n hr]
   rw [this]
   simp only [bV,aD]
  ·rintro ⟨h1,h2⟩
   rw [e1] at h1
   rw [<-mQ,e1] at h2
   exact h2 (hq h1)
def ky (I:List TI):aa:=(I.map λt=>44::ct t).flatten
theorem vB {en:UInt8} (hen:brk en=true) (hen44:en≠44) {post:aa} (hp:endT post) (h44:post.head?≠some 44) (hq:dts post=true->(post.drop 2).head?=some en):∀(I:List TI) (t:TI) (r p:Nat) {S:aa} (P:List Nat) (J:List TI),OkI t->(∀u∈I,OkI u)->I.length<r->S.drop p=ct t++(ky I++post)->
  ∃P',nl S en r p P J=.inr (p+(ct t++ky I).length,P',J++t::I)
 | [],t,r+1,p,S,P,J,ok,_,hl,h=>by
  obtain ⟨a,ha⟩:=vq ok hen (post:=post) (by simpa [ky] using h) hp hq
  refine ⟨P++[a],?_⟩
  rw [nl,ha]
  simp only []
  have e1:S.drop (p+(ct t).length)=post:=ge (by simpa [ky] using h)
  rw [e1,ab h44]
  simp [ky]
 | u::I,t,r+1,p,S,P,J,ok,oks,hl,h=>by
  have e0:ky (u::I)++post=44::(ct u++(ky I++post)):=by simp [ky]
  rw [e0] at h
  obtain ⟨a,ha⟩:=vq ok hen (post:=44::(ct u++(ky I++post))) h (sR (by decide)) (λhd=>by
   obtain ⟨r,hr⟩:=vt.1 hd
   cases hr)
  have e1:S.drop (p+(ct t).length)=44::(ct u++(ky I++post)):=ge h
  have e2:S.drop (p+(ct t).length+1)=ct u++(ky I++post):=ge (u:=[44]) e1
  obtain ⟨P',hP⟩:=vB hen hen44 hp h44 hq I u r (p+(ct t).length+1) (P++[a]) (J++[t]) (oks u oG) (λv hv=>oks v (gt _ hv)) (by simp at hl;omega) e2
  refine ⟨P',?_⟩
  rw [nl,ha]
  simp only []
  rw [e1,yx,ae rfl,hP]
  have:p+(ct t).length+1+(ct u++ky I).length=p+(ct t++ky (u::I)).length:=by simp [ky];omega
  rw [this]
  simp
def oN (K:Int) (e l:Bool) (I:List TI):aa:=
 (if K=4 then 123 else 91)::((if e then [46,46] else [])++(Lib.join (I.map ct) [44]++((if l then [46,46] else [])++[endC K])))
theorem A8 (t:TI) (I:List TI):Lib.join ((t::I).map ct) [44]=ct t++ky I:=by
 rw [fS,Lib.join_cons]
 unfold Lib.joinTail ky
 rw [ri]
 rfl
theorem F8 {K:Int} (hK:K=3\/K=4) {e l:Bool} {I:List TI} (h1:1<=I.length) (h2:I.length<=256) (ok:∀t∈I,OkI t) (hE:(setE K e l I).2=0) {S:aa} {a:Nat} {post:aa} (h:S.drop a=oN K e l I++post):
  xc S a=.inr (K,e,l,I,a+(oN K e l I).length):=by
 obtain ⟨t,J,rfl⟩:∃t J,I=t::J:=by
  cases I with
  | nil=>simp at h1
  | cons t J=>exact ⟨t,J,rfl⟩
 have hen:brk (endC K)=true:=by unfold endC;split<;>decide
 have hen4:endC K≠44:=by unfold endC;split<;>decide
 have hen6:endC K≠46:=by unfold endC;split<;>decide
 unfold oN at h ⊢
 rw [A8] at h ⊢
 have ea:S.drop (a+1)=(if e then [46,46] else [])++((ct t++ky J)++((if l then [46,46] else [])++(endC K::post))):=by
  have:=ge (u:=[if K=4 then 123 else 91]) (v:=((if e then [46,46] else [])++((ct t++ky J)++((if l then [46,46] else [])++[endC K])))++post) (by rw [h];rfl)
  rw [show a+1=a+[if K=4 then (123:UInt8) else 91].length from rfl,this]
  simp only [iB,List.singleton_append]
 have he:dts (S.drop (a+1))=e:=by
  rw [ea]
  cases e
  ·simp only [bV,aD,dR]
   rw [iB]
   exact Ff (Gm (ok t oG) _)
  ·rfl
 have eb:S.drop (if e then a+3 else a+1)=ct t++(ky J++((if l then [46,46] else [])++(endC K::post))):=by
  rw [<-iB]
  cases e
  ·simpa using ea
  ·have:=ge (u:=[46,46]) ea
   simpa using this
 have hq:endT ((if l then [46,46] else [])++(endC K::post)):=by
  cases l
  ·exact sR hen
  ·exact sR (by decide)
 have h44:((if l then [46,46] else [])++(endC K::post)).head?≠some 44:=by
  cases l
  ·simp [hen4]
  ·simp
 have hdq:dts ((if l then [46,46] else [])++(endC K::post))=l:=by
  cases l
  ·cases hd:dts ((if false then [46,46] else [])++(endC K::post))
   ·rfl
   ·obtain ⟨r,hr⟩:=vt.1 hd
    simp at hr
    exact absurd hr.1 hen6
  ·rfl
 obtain ⟨P,hP⟩:=vB hen hen4 hq h44 (λhd=>by rw [hdq] at hd;subst hd;rfl) J t 256 (if e then a+3 else a+1) [] [] (ok t oG) (λu hu=>ok u (gt _ hu)) (by simp at h2;omega) eb
 have ec:S.drop ((if e then a+3 else a+1)+(ct t++ky J).length)=(if l then [46,46] else [])++(endC K::post):=by
  apply ge
  rw [eb,iB]
 have main:xa S a K=.inr (K,e,l,t::J,a+(((if K=4 then 123 else 91)::((if e then [46,46] else [])++((ct t++ky J)++((if l then [46,46] else [])++[endC K]))):aa).length)):=by
  unfold xa
  rw [he,hP]
  simp only [dR]
  unfold endL
  rw [ec,hdq]
  generalize hX:(if e then a+3 else a+1)+(ct t++ky J).length=X at ec ⊢
  have ed:S.drop (if l then X+2 else X)=endC K::post:=by
   cases l
   ·simpa using ec
   ·have:=ge (u:=[46,46]) ec
    simpa using this
  rw [ed,yx,ae rfl,ae hE]
  have:(if l then X+2 else X)+1=a+(((if K=4 then 123 else 91)::((if e then [46,46] else [])++((ct t++ky J)++((if l then [46,46] else [])++[endC K]))):aa).length):=by
   rw [<-hX]
   cases e<;>cases l<;>simp<;>omega
  rw [this]
 unfold xc
 have hh:(S.drop a).head?=some (if K=4 then 123 else 91):=by rw [h];rfl
 rw [hh]
 rcases hK with rfl | rfl
 ·rw [ae (show some (if (3:Int)=4 then (123:UInt8) else 91)=some 91 from rfl)];exact main
 ·rw [ab (show ¬some (if (4:Int)=4 then (123:UInt8) else 91)=some 91 by decide),ae (show some (if (4:Int)=4 then (123:UInt8) else 91)=some 123 from rfl)];exact main
theorem vp {x y:TD} {r all:Bool} (h:itE x r y all=0):cF x=0/\(r=true->cF y=0)/\(r=false->y=d0)/\itE x r y false=0:=by
 by_cases hc:cF x=0
 ·refine ⟨hc,?_⟩
  cases r
  ·rw [G5 hc] at h ⊢
   have hy:eqD y d0=true:=by
    cases hz:eqD y d0
    ·rw [hz] at h;simp at h
    ·rfl
   exact ⟨λh=>(by cases h),λ_=>ku.1 hy,by rw [hy];simp⟩
  ·by_cases hy:cF y=0
   ·rw [MR hc hy] at h ⊢
    have ho:ordB x y=true:=by
     cases hz:ordB x y
     ·rw [hz] at h;simp at h
     ·rfl
    exact ⟨λ_=>hy,λh=>(by cases h),by rw [ho];simp⟩
   ·rw [LZ hc hy] at h;exact absurd h hy
 ·rw [P2 hc] at h;exact absurd h hc
theorem Qb {t:TI} {all:Bool} (hs:smI t) (h:itI t all=0):OkI t:=by
 obtain ⟨a,b,c,_⟩:=vp h
 exact ⟨hs,a,b,c⟩
theorem vb {x y:TD} (r:Bool) (hx:smT x) (hy:smT y):fV 20000000 x r y=some (if itE x r y false=0 then (ct (mkI x r y),0) else ([],itE x r y false)):=by
 unfold fV
 rw [CG r hx hy,ae (.inl rfl),show ((3:Int)==4)=false from rfl]
 simp only [ob]
 by_cases h:itE x r y false=0
 ·obtain ⟨a,b,c,_⟩:=vp h
  rw [ae h,h,dfT hx a]
  simp only [fp,af,u2]
  cases r
  ·rfl
  ·have l1:=nK hx a
   have l2:=nK hy (b rfl)
   simp only [aj,dfT hy (b rfl)]
   rw [bM (by simp only [aB,aY];omega)]
   simp only []
   rw [bM (by simp only [aN,aB,aY];omega)]
   rfl
 ·rw [ab h,show (itE x r y false != 0)=true from by simp [h]]
  rfl
theorem Bt {t:TI} (ok:OkI t):dB 20000000 (iF t) (rT t) (iT t)=some (ct t):=by
 unfold dB ct
 rw [rfT ok.sm.1 ok.a]
 cases hr:rT t
 ·rfl
 ·have l1:=nK ok.sm.1 ok.a
  have l2:=nK ok.sm.2 (ok.b hr)
  simp only [aj,ob,rfT ok.sm.2 (ok.b hr)]
  rw [bM (by simp only [aB,aY];omega)]
  simp only []
  rw [bM (by simp only [aN,aB,aY];omega)]
  simp only [aO,iB]
theorem BF:∀{I:List TI},(∀t∈I,OkI t)->(ky I).length<=77*I.length
 | [],_=>by simp [ky]
 | t::I,h=>by
  have h1:=sE (h t oG)
  have h2:=BF (I:=I) λu hu=>h u (gt _ hu)
  have:ky (t::I)=(44::ct t)++ky I:=by simp [ky]
  rw [this]
  simp only [aN,aB]
  omega
theorem r6 {I:List TI} (h:∀t∈I,OkI t):(Lib.join (I.map ct) [44]).length<=77*I.length:=by
 cases I with
 | nil=>simp [Lib.join_nil]
 | cons t I=>
  have h1:=sE (h t oG)
  have h2:=BF (I:=I) λu hu=>h u (gt _ hu)
  rw [A8]
  simp only [aN,aB]
  omega
theorem GO {I:List TI} {i:Nat} {t:TI} (h:I[i]?=some t) (w:aa) (hw:w=ct t):((I.take i).map ct++List.replicate (I.length - i) []).set i w=(I.take (i+1)).map ct++List.replicate (I.length - (i+1)) []:=by
 have hi:i<I.length:=(mX.1 h).1
 obtain ⟨k,hk⟩:∃k,I.length - i=k+1:=⟨I.length - i - 1,by omega⟩
 have hl:((I.take i).map ct).length=i:=by simp;omega
 rw [hk,rg,show I.length - (i+1)=k by omega,oB,h,hw]
 rw [List.set_append_right _ _ (by omega),hl,yZ]
 simp
theorem HH {I:List TI} (hs:∀t∈I,OkI t/\itI t false=0) (hn:I.length<=1000) (K:Int) (D:TD) (KF:Int) (DF:TD) (KT:Int) (DT:TD) (e l:Bool):∀(r i:Nat),i+r=I.length->∀N,r<N->
  aw (dX 20000000) N (len I,(i:Int),I,K,D,KF,DF,KT,DT,e,l,(I.take i).map ct++List.replicate (I.length - i) [])=some (I,K,D,KF,DF,KT,DT,e,l,I.map ct):=by
 intro r
 induction r with
 | zero=>
  intro i hi N hN
  obtain ⟨N,rfl⟩:∃k,N=k+1:=⟨N - 1,by omega⟩
  obtain rfl:i=I.length:=by omega
  have:dX 20000000 (len I,((I.length:Nat):Int),I,K,D,KF,DF,KT,DT,e,l,(I.take I.length).map ct++List.replicate (I.length - I.length) [])=some (.inr (I,K,D,KF,DF,KT,DT,e,l,I.map ct)):=by
   unfold dX
   simp only [u12,u11,u10,u9,u8,u7,u6,u5,u4,u3,u2]
   rw [au (show ¬((I.length:Nat):Int)<len I by show ¬((I.length:Nat):Int)<((I.length:Nat):Int);omega),yZ,o8]
   simp
  rw [aw,this]
 | succ r ih=>
  intro i hi N hN
  obtain ⟨N,rfl⟩:∃k,N=k+1:=⟨N - 1,by omega⟩
  have hil:i<I.length:=by omega
  have hg:I[i]?=some I[i]:=bm hil
  obtain ⟨ok,h0⟩:=hs _ (G6 hil)
  generalize I[i]=t at hg ok h0
  have hl:((I.take i).map ct++List.replicate (I.length - i) ([]:aa)).length=I.length:=by simp;omega
  have:dX 20000000 (len I,(i:Int),I,K,D,KF,DF,KT,DT,e,l,(I.take i).map ct++List.replicate (I.length - i) [])=some (.inl (len I,((i+1:Nat):Int),I,K,D,KF,DF,KT,DT,e,l,(I.take (i+1)).map ct++List.replicate (I.length - (i+1)) [])):=by
   unfold dX
   simp only [u12,u11,u10,u9,u8,u7,u6,u5,u4,u3,u2]
   rw [ar (show (i:Int)<len I by show (i:Int)<((I.length:Nat):Int);omega),cT hil]
   simp only [aj,ob,hg]
   rw [show fV 20000000 (iF t) (d8 t).2.2.1 (d8 t).2.2.2=some (ct t,0) from (vb (rT t) ok.sm.1 ok.sm.2).trans (by rw [ae (show itE (iF t) (rT t) (iT t) false=0 from h0)])]
   simp only [hl]
   rw [cT hil]
   simp only []
   obtain ⟨w,hw⟩:∃w,((I.take i).map ct++List.replicate (I.length - i) ([]:aa))[i]?=some w:=⟨_,bm (by omega)⟩
   rw [hw]
   simp only [u2]
   rw [GO hg _ rfl,oA (by omega)]
  rw [aw,this]
  exact ih (i+1) (by omega) N (by omega)
structure SetP (K:Int) (D:TD) (KF:Int) (DF:TD) (KT:Int) (DT:TD) (e l:Bool) (I:List TI):Prop where
 kind:K=3\/K=4
 d:D=d0
 kf:KF=0
 df:DF=d0
 kt:KT=0
 dt:DT=d0
 one:1<=I.length
 most:I.length<=256
 its:∀t∈I,itI t (K==4)=0
 set:(setE K e l I).2=0
theorem ym {A:Type} {f:Nat->A->Int}:∀{L:List A} {k:Nat},lR f k L=none->∀t∈L,∃i,f i t=0
 | u::L,k,h,t,ht=>by
  rw [lR] at h
  split at h
  ·cases h
  ·rename_i hf
   rcases cU.1 ht with rfl | ht
   ·exact ⟨k,H8.1 hf⟩
   ·exact ym h t ht
theorem Eu {A:Type} {f:Nat->A->Int}:∀{L:List A} {k:Nat} {p:Nat×Int},lR f k L=some p->p.2≠0
 | u::L,k,p,h=>by
  rw [lR] at h
  split at h
  ·rename_i hf;cases h;exact hf
  ·exact Eu h
theorem Of {K:Int} {e l:Bool} {n i:Nat} {t:TI} (h:errI K e l n i t=0):itI t (K==4)=0:=by
 unfold errI at h
 split at h
 ·rename_i h1;exact absurd h h1
 ·rename_i h1;exact H8.1 h1
theorem AI {K:Int} (hK:K=3\/K=4) {D:TD} {KF:Int} {DF:TD} {KT:Int} {DT:TD} {e l:Bool} {I:List TI} (h:(gD K D KF DF KT DT e l I).2=0):SetP K D KF DF KT DT e l I:=by
 have h0:=h
 unfold gD at h
 rw [ab (by omega)] at h
 split at h
 ·simp at h
 ·rename_i hu
  rw [ab (by omega),ab (by omega)] at h
  split at h
  ·simp at h
  ·split at h
   ·simp at h
   ·unfold so at h
    have hD:D=d0/\KF=0/\DF=d0/\KT=0/\DT=d0:=by
     unfold unuB at hu
     have k1:(K==1)=false:=by rcases hK with rfl | rfl<;>rfl
     have k2:(K==2)=false:=by rcases hK with rfl | rfl<;>rfl
     have k3:(K==3||(K==4||(decide (I.length=0)&&(!e&&!l))))=true:=by rcases hK with rfl | rfl<;>rfl
     rw [k1,k2,k3] at hu
     generalize h1:eqD D d0=z1 at hu
     generalize h2:eqD DF d0=z2 at hu
     generalize h3:eqD DT d0=z3 at hu
     simp only [tK,dI,Hy,xI,gB,kx,not_or,Bool.not_eq_false,az,bD] at hu
     obtain ⟨a,⟨b,c⟩,d,e⟩:=hu
     exact ⟨ku.1 (h1.trans a),b,ku.1 (h2.trans c),d,ku.1 (h3.trans e)⟩
    obtain ⟨rfl,rfl,rfl,rfl,rfl⟩:=hD
    cases hs:lR (errI K e l I.length) 0 I with
    | some p=>rw [hs] at h;exact absurd h (Eu hs)
    | none=>
     refine ⟨hK,rfl,rfl,rfl,rfl,rfl,by omega,by omega,λt ht=>?_,h0⟩
     obtain ⟨i,hi⟩:=ym hs t ht
     exact Of hi
theorem Lx {K:Int} {D:TD} {KF:Int} {DF:TD} {KT:Int} {DT:TD} {e l:Bool} {I:List TI} (p:SetP K D KF DF KT DT e l I) (hs:∀t∈I,smI t):∀t∈I,OkI t/\itI t false=0:=
 λt ht=>⟨Qb (hs t ht) (p.its t ht),(vp (p.its t ht)).2.2.2⟩
def wZ (K:Int):Prop:=K=3\/K=4
instance (K:Int):Decidable (wZ K):=inferInstanceAs (Decidable (K=3\/K=4))
theorem Jo {K:Int} {D:TD} {KF:Int} {DF:TD} {KT:Int} {DT:TD} {e l:Bool} {I:List TI} (h:smE D DF DT I):
  kJ 20000000 K D KF DF KT DT e l I=some (if wZ K then (if (gD K D KF DF KT DT e l I).2=0 then (oN K e l I,0) else ([],(gD K D KF DF KT DT e l I).2)) else ([],18)):=by
 have main:∀hK:wZ K,(ob (kQ 20000000 K D KF DF KT DT e l I) λv18=>(cond (v18 != 0) (some ([],v18)) (cond (decide ((0:Int)<=(len I))&&(decide ((len I)<=(len I))&&decide ((len I)<=(67108864:Int)))) (ob (aw (dX 20000000) 20000000 ((len I),0,I,K,D,KF,DF,KT,DT,e,l,(List.replicate (Int.toNat (len I)) ([]:aa)))) (u10 λ_ v19 _ _ _ _ _ v20 v21 v22=>(ob (fM 20000000 v19) (u2 λv23 v24=>(cond v20 (ob (cat v23 ([46,46]:aa)) λv25=>(cond v21 (ob (cat ([46,46]:aa) v24) λv26=>(cond (Nat.ble (List.length v22) 140737488355328&&Nat.ble (List.length (Lib.join v22 ([44]:aa))) 140737488355328) (ob (cat v25 (Lib.join v22 ([44]:aa))) λv27=>(ob (cat v27 v26) λv28=>(some (v28,0)))) none)) (cond (Nat.ble (List.length v22) 140737488355328&&Nat.ble (List.length (Lib.join v22 ([44]:aa))) 140737488355328) (ob (cat v25 (Lib.join v22 ([44]:aa))) λv29=>(ob (cat v29 v24) λv30=>(some (v30,0)))) none))) (cond v21 (ob (cat ([46,46]:aa) v24) λv31=>(cond (Nat.ble (List.length v22) 140737488355328&&Nat.ble (List.length (Lib.join v22 ([44]:aa))) 140737488355328) (ob (cat v23 (Lib.join v22 ([44]:aa))) λv32=>(ob (cat v32 v31) λv33=>(some (v33,0)))) none)) (cond (Nat.ble (List.length v22) 140737488355328&&Nat.ble (List.length (Lib.join v22 ([44]:aa))) 140737488355328) (ob (cat v23 (Lib.join v22 ([44]:aa))) λv34=>(ob (cat v34 v24) λv35=>(some (v35,0)))) none))))))) none))) =
   some (if (gD K D KF DF KT DT e l I).2=0 then (oN K e l I,(0:Int)) else ([],(gD K D KF DF KT DT e l I).2)):=by
  intro hK
  rw [Kb h]
  simp only [ob]
  by_cases h0:(gD K D KF DF KT DT e l I).2=0
  ·have P:=AI hK h0
   have hm:=P.most
   have oks:=Lx P h.2.2.2
   have hj:=r6 λt ht=>(oks t ht).1
   rw [ae h0,h0]
   have hloop:=HH oks (by omega) K D KF DF KT DT e l I.length 0 (by omega) 20000000 (by omega)
   simp only [fp,af]
   have c3:(decide ((0:Int)<=(len I))&&(decide ((len I)<=(len I))&&decide ((len I)<=(67108864:Int))))=true:=by
    have:len I=((I.length:Nat):Int):=rfl
    rw [this]
    simp only [az,bY]
    omega
   rw [c3,aj,show (List.replicate (Int.toNat (len I)) ([]:aa))=(I.take 0).map ct++List.replicate (I.length - 0) [] from by simp]
   rw [show aw (dX 20000000) 20000000 (len I,(0:Int),I,K,D,KF,DF,KT,DT,e,l,(I.take 0).map ct++List.replicate (I.length - 0) [])=_ from hloop]
   have hb:(Nat.ble (List.length (I.map ct)) 140737488355328&&Nat.ble (List.length (Lib.join (I.map ct) ([44]:aa))) 140737488355328)=true:=by
    simp only [az]
    exact ⟨dq (by simp;omega),dq (by omega)⟩
   simp only [u10,u9,u8,u7,u6,u5,u4,u3,u2,wg hK,hb,aj]
   unfold oN
   generalize hb1:(if K=4 then (123:UInt8) else 91)=b1
   generalize endC K=b2
   generalize Lib.join (I.map ct) [44]=w at hj
   cases e<;>cases l<;>simp only [aj,af]
   ·rw [bM (by simp only [aB,aY];omega)]
    simp only []
    rw [bM (by simp only [aN,aB,aY];omega)]
    simp
   ·rw [bM (by simp only [aB,aY];omega)]
    simp only []
    rw [bM (by simp only [aB,aY];omega)]
    simp only []
    rw [bM (by simp only [aN,aB,aY];omega)]
    simp
   ·rw [bM (by simp only [aB,aY];omega)]
    simp only []
    rw [bM (by simp only [aN,aB,aY];omega)]
    simp only []
    rw [bM (by simp only [aN,aB,aY];omega)]
    simp
   ·rw [bM (by simp only [aB,aY];omega)]
    simp only []
    rw [bM (by simp only [aB,aY];omega)]
    simp only []
    rw [bM (by simp only [aN,aB,aY];omega)]
    simp only []
    rw [bM (by simp only [aN,aB,aY];omega)]
    simp
  ·rw [ab h0,show ((gD K D KF DF KT DT e l I).2 != 0)=true from by simp [h0]]
   rfl
 unfold kJ
 by_cases h3:K=3
 ·rw [show (K != 3)=false from by simp [h3],ae (.inl h3)]
  exact main (.inl h3)
 ·rw [show (K != 3)=true from by simp [h3],aj]
  by_cases h4:K=4
  ·rw [show (K != 4)=false from by simp [h4],ae (.inr h4)]
   exact main (.inr h4)
  ·rw [show (K != 4)=true from by simp [h4],ab (by rintro (h | h)<;>contradiction)]
   rfl
theorem Io (ws:List (aa)) (w:aa) (h:ws≠[]):Lib.join (ws++[w]) [44]=Lib.join ws [44]++[44]++w:=by
 cases ws with
 | nil=>exact absurd rfl h
 | cons a r=>
  rw [fj,Lib.join_cons,Lib.join_cons]
  unfold Lib.joinTail
  simp
theorem Fm {I:List TI} (hs:∀t∈I,OkI t) (hn:I.length<=1000) (pre:aa) (hp:pre.length<=10) (K:Int) (D:TD) (KF:Int) (DF:TD) (KT:Int) (DT:TD) (e l:Bool):∀(r i:Nat),i+r=I.length->∀N,r<N->
  aw (bI 20000000) N (pre++Lib.join ((I.take i).map ct) [44],(i:Int),I,K,D,KF,DF,KT,DT,e,l)=some (pre++Lib.join (I.map ct) [44],I,K,D,KF,DF,KT,DT,e,l):=by
 intro r
 induction r with
 | zero=>
  intro i hi N hN
  obtain ⟨N,rfl⟩:∃k,N=k+1:=⟨N - 1,by omega⟩
  obtain rfl:i=I.length:=by omega
  have:∀s,bI 20000000 (s,((I.length:Nat):Int),I,K,D,KF,DF,KT,DT,e,l)=some (.inr (s,I,K,D,KF,DF,KT,DT,e,l)):=by
   intro s
   unfold bI
   simp only [u11,u10,u9,u8,u7,u6,u5,u4,u3,u2]
   rw [au (show ¬((I.length:Nat):Int)<len I by show ¬((I.length:Nat):Int)<((I.length:Nat):Int);omega)]
   rfl
  rw [aw,this,o8]
 | succ r ih=>
  intro i hi N hN
  obtain ⟨N,rfl⟩:∃k,N=k+1:=⟨N - 1,by omega⟩
  have hil:i<I.length:=by omega
  have hg:I[i]?=some I[i]:=bm hil
  have ok:=hs _ (G6 hil)
  generalize I[i]=t at hg ok
  have hl:=r6 (I:=I.take i) λu hu=>hs u (List.mem_of_mem_take hu)
  have hl2:(I.take i).length<=1000:=by rw [cE];omega
  have ht:=sE ok
  have htk:(I.take (i+1)).map ct=(I.take i).map ct++[ct t]:=by rw [oB,hg];simp
  have:bI 20000000 (pre++Lib.join ((I.take i).map ct) [44],(i:Int),I,K,D,KF,DF,KT,DT,e,l)=some (.inl (pre++Lib.join ((I.take (i+1)).map ct) [44],((i+1:Nat):Int),I,K,D,KF,DF,KT,DT,e,l)):=by
   unfold bI
   simp only [u11,u10,u9,u8,u7,u6,u5,u4,u3,u2]
   rw [ar (show (i:Int)<len I by show (i:Int)<((I.length:Nat):Int);omega),cT hil]
   have hit:dB 20000000 (iF t) (d8 t).2.2.1 (d8 t).2.2.2=some (ct t):=Bt ok
   simp only [aj,ob,hg,hit]
   rw [htk]
   by_cases h0:i=0
   ·subst h0
    rw [au (show ¬((0:Nat):Int)>0 by omega),af,bM (by simp only [aN];omega),oA (by omega)]
    simp [Lib.join_nil,Lib.join_one]
   ·have hne:(I.take i).map ct≠[]:=by
     intro h
     have:=dP List.length h
     rw [th,cE,aY] at this
     omega
    rw [ar (show (i:Int)>0 by omega),aj,bM (by simp only [aN,aB,aY];omega)]
    simp only []
    rw [bM (by simp only [aN,aB,aY];omega),oA (by omega),Io _ _ hne]
    simp
  rw [aw,this]
  exact ih (i+1) (by omega) N (by omega)
theorem iO9 {K:Int} (hK:wZ K) {I:List TI} (hs:∀t∈I,OkI t) (hn:I.length<=1000) (D:TD) (KF:Int) (DF:TD) (KT:Int) (DT:TD) (e l:Bool):iL 20000000 K D KF DF KT DT e l I=some (oN K e l I):=by
 have hj:=r6 hs
 have hl:=λ(pre:aa) (hp:pre.length<=10)=>Fm hs hn pre hp K D KF DF KT DT e l I.length 0 (by omega) 20000000 (by omega)
 have e0:Lib.join ((I.take 0).map ct) [44]=[]:=rfl
 rw [e0] at hl
 simp only [nW] at hl
 unfold iL oN
 have l1:=hl [123,46,46] (by simp)
 have l2:=hl [123] (by simp)
 have l3:=hl [91,46,46] (by simp)
 have l4:=hl [91] (by simp)
 rw [show ((0:Nat):Int)=0 from rfl] at l1 l2 l3 l4
 rw [l1,l2,l3,l4]
 generalize Lib.join (I.map ct) [44]=w at hj
 have c1:∀p q:aa,p.length<=10->q.length<=10->cat (p++w) q=some (p++w++q):=λp q hp hq=>bM (by simp only [aN];omega)
 have c2:∀p q r:aa,p.length<=10->q.length<=10->r.length<=10->cat (p++w++q) r=some (p++w++q++r):=λp q r hp hq hr=>bM (by simp only [aN];omega)
 rcases hK with rfl | rfl
 ·rw [show ((3:Int)==4)=false from rfl]
  cases e<;>cases l<;>simp only [aj,af,ob,u10,u9,u8,u7,u6,u5,u4,u3,u2]
  ·simp only [show ((3:Int)==4)=false from rfl,show ((4:Int)==4)=true from rfl,aj,af]
   rw [c1 _ _ (by simp) (by simp)]
   simp [endC]
  ·rw [c1 _ _ (by simp) (by simp)]
   simp only [show ((3:Int)==4)=false from rfl,show ((4:Int)==4)=true from rfl,aj,af]
   rw [c2 _ _ _ (by simp) (by simp) (by simp)]
   simp [endC]
  ·simp only [show ((3:Int)==4)=false from rfl,show ((4:Int)==4)=true from rfl,aj,af]
   rw [c1 _ _ (by simp) (by simp)]
   simp [endC]
  ·rw [c1 _ _ (by simp) (by simp)]
   simp only [show ((3:Int)==4)=false from rfl,show ((4:Int)==4)=true from rfl,aj,af]
   rw [c2 _ _ _ (by simp) (by simp) (by simp)]
   simp [endC]
 ·rw [show ((4:Int)==4)=true from rfl]
  cases e<;>cases l<;>simp only [aj,af,ob,u10,u9,u8,u7,u6,u5,u4,u3,u2]
  ·simp only [show ((3:Int)==4)=false from rfl,show ((4:Int)==4)=true from rfl,aj,af]
   rw [c1 _ _ (by simp) (by simp)]
   simp [endC]
  ·rw [c1 _ _ (by simp) (by simp)]
   simp only [show ((3:Int)==4)=false from rfl,show ((4:Int)==4)=true from rfl,aj,af]
   rw [c2 _ _ _ (by simp) (by simp) (by simp)]
   simp [endC]
  ·simp only [show ((3:Int)==4)=false from rfl,show ((4:Int)==4)=true from rfl,aj,af]
   rw [c1 _ _ (by simp) (by simp)]
   simp [endC]
  ·rw [c1 _ _ (by simp) (by simp)]
   simp only [show ((3:Int)==4)=false from rfl,show ((4:Int)==4)=true from rfl,aj,af]
   rw [c2 _ _ _ (by simp) (by simp) (by simp)]
   simp [endC]
theorem EX:hZ 20000000=some true:=by kernel_rfl
theorem Je (K:Int) (D:TD) (KF:Int) (DF:TD) (KT:Int) (DT:TD) (e l:Bool) {I:List TI} (hn:I.length<=1000000):eZ 20000000 K D KF DF KT DT e l K D KF DF KT DT e l I I=some 1:=by
 unfold eZ
 rw [zK rfl hn,ae rfl]
 have hD:∀x:TD,eqD x x=true:=λx=>ku.2 rfl
 simp only [hD,rr,fp,af,H6,dI,obs,sm,ob]
theorem NU (n:Nat) (K:Int) (D:TD) (KF:Int) (DF:TD) (KT:Int) (DT:TD) (c:Nat) (e l:Bool) (K':Int) (D':TD) (KF':Int) (DF':TD) (KT':Int) (DT':TD) (e' l':Bool) (I J:List TI):
  eg n K D KF DF KT DT I.length c e l K' D' KF' DF' KT' DT' e' l' I J=eZ n K D KF DF KT DT e l K' D' KF' DF' KT' DT' e' l' I J:=by
 unfold eg eZ
 have:=wo (s:=cM n) (s':=fG n) (u19 λx0 x1 x2 x3 x4 x5 x6 x7 x8 x9 x10 x11 x12 x13 x14 x15 x16 x17 x18=>(x0,x1,x2,x3,x4,x5,x6,x7,x8,x1.length,c,x9,x10,x11,x12,x13,x14,x15,x16,x17,x18)) id (by
  rintro ⟨x0,x1,x2,x3,x4,x5,x6,x7,x8,x9,x10,x11,x12,x13,x14,x15,x16,x17,x18⟩
  unfold cM fG
  simp only [u21,u20,u19,u18,u17,u16,u15,u14,u13,u12,u11,u10,u9,u8,u7,u6,u5,u4,u3,u2,CA]
  rw [show decide (x0<((x1.length:Nat):Int))=decide (x0<len x1) from rfl]
  cases decide (x0<len x1)
  ·rfl
  ·simp only [aj]
   cases ix x1.length x0 with
   | none=>rfl
   | some i=>
    simp only [ob]
    cases x1[i]? with
    | none=>rfl
    | some t=>
     simp only [ob]
     cases ix x2.length x0 with
     | none=>rfl
     | some j=>
      simp only [ob]
      cases x2[j]? with
      | none=>rfl
      | some u=>
       simp only [ob]
       cases decide (t=u)<;>rfl) n (0,I,J,K,D,KF,DF,KT,DT,e,l,K',D',KF',DF',KT',DT',e',l')
 simp only [u19,u18,u17,u16,u15,u14,u13,u12,u11,u10,u9,u8,u7,u6,u5,u4,u3,u2,Option.map_id,id] at this
 rw [this]
theorem Al (K:Int) (D:TD) (KF:Int) (DF:TD) (KT:Int) (DT:TD) (c:Nat) (e l:Bool) {I:List TI} (hn:I.length<=1000000):eg 20000000 K D KF DF KT DT I.length c e l K D KF DF KT DT e l I I=some 1:=
 (NU _ _ _ _ _ _ _ _ _ _ _ _ _ _ _ _ _ _ _ _).trans (Je K D KF DF KT DT e l hn)
theorem xH {K:Int} (hK:wZ K) {e l:Bool} {I:List TI} (h1:1<=I.length) (h2:I.length<=256) (ok:∀t∈I,OkI t) (hE:(setE K e l I).2=0):D2 (oN K e l I)=.inr (K,e,l,I):=by
 unfold D2
 rw [F8 hK h1 h2 ok hE (post:=[]) (by rw [fY,nW])]
 simp only []
 rw [ab (by omega)]
theorem G9 {K:Int} {e l:Bool} {I:List TI} (h2:I.length<=256) (ok:∀t∈I,OkI t):(oN K e l I).length<=19720:=by
 have:=r6 ok
 unfold oN
 cases e<;>cases l<;>simp<;>omega
theorem FQ {t:TI} (h:itI t false=0):(setE 3 false false [t]).2=0:=by
 have hz:eqD d0 d0=true:=ku.2 rfl
 have hu:unuB 3 d0 0 d0 0 d0 false false [t].length=false:=by unfold unuB;rw [hz];rfl
 unfold setE gD
 rw [ab (by omega),hu,ab (by simp),ab (by omega),ab (by omega),ab (by simp),ab (by simp)]
 unfold so
 have:errI 3 false false 1 0 t=0:=by
  unfold errI
  rw [show ((3:Int)==4)=false from rfl,h]
  simp
 rw [show [t].length=1 from rfl]
 simp only [lR]
 rw [ab (by rw [this];simp)]
theorem I4 (t:TI):oN 3 false false [t]=[91]++ct t++[93]:=by
 unfold oN
 rw [List.map_singleton,Lib.join_one]
 simp [endC]
theorem Mm {I:List TI} {i:Nat} {t:TI} (hi:I[i]?=some t) (ok:OkI t) (h0:itI t false=0) (s:aa) (K:Int) (D:TD) (KF:Int) (DF:TD) (KT:Int) (DT:TD) (e l:Bool):
  eo 20000000 s (i:Int) K D KF DF KT DT e l I=some (.inr (s,(i:Int),K,D,KF,DF,KT,DT,e,l,I)):=by
 have hil:i<I.length:=(mX.1 hi).1
 have ht:=sE ok
 have oks:∀u∈[t],OkI u:=λu hu=>by rw [ta.1 hu];exact ok
 unfold eo gm fL
 have e1:fV 20000000 (iF t) (d8 t).2.2.1 (d8 t).2.2.2=some (ct t,0):=(vb (rT t) ok.sm.1 ok.sm.2).trans (by rw [ae (show itE (iF t) (rT t) (iT t) false=0 from h0)])
 have e2:dB 20000000 (iF t) (d8 t).2.2.1 (d8 t).2.2.2=some (ct t):=Bt ok
 have e3:dA 20000000 ([91]++ct t++[93])=some (.inr (3,d0,0,d0,0,d0,1,1,false,false,0,0,[t])):=by
  rw [Er (by simp only [aN,aB,aY];omega),<-I4,xH (.inl rfl) (by simp) (by simp) oks (FQ h0)]
  rfl
 rw [cT hil]
 simp only [ob,hi,e1,u2]
 rw [bM (by simp only [aB,aY];omega)]
 simp only []
 rw [bM (by simp only [aN,aB,aY];omega)]
 simp only [e3,obs,sm,ob,u26,u25,u24,u23,u22,u21,u20,u19,u18,u17,u16,u15,u14,u13,u12,u11,u10,u9,u8,u7,u6,u5,u4,u3,u2,cT hil,hi,e2,CA]
 rw [show ix 1 (0:Int)=some 0 from rfl]
 simp only [kw,nd]
 simp
theorem Na {I:List TI} (hs:∀t∈I,OkI t/\itI t false=0) (hn:I.length<=1000000) (s:aa) (K:Int) (D:TD) (KF:Int) (DF:TD) (KT:Int) (DT:TD) (e l:Bool):
  aw (bT 20000000) 20000000 (s,0,K,D,KF,DF,KT,DT,e,l,I)=some (.inr (s,K,D,KF,DF,KT,DT,e,l,I)):=by
 refine Jk (step:=bT 20000000) (st:=λi=>(s,(i:Int),K,D,KF,DF,KT,DT,e,l,I)) (L:=I) ?_ ?_ (by omega)
 ·intro i t ht
  have hi:i<I.length:=(mX.1 ht).1
  obtain ⟨ok,h0⟩:=hs t (fm ht)
  unfold bT
  simp only [u11,u10,u9,u8,u7,u6,u5,u4,u3,u2]
  rw [ar (show (i:Int)<len I by show (i:Int)<((I.length:Nat):Int);omega),Mm ht ok h0]
  simp only [aj,obs,sm,ob,u11,u10,u9,u8,u7,u6,u5,u4,u3,u2]
  rw [oA (by omega)]
 ·unfold bT
  simp only [u11,u10,u9,u8,u7,u6,u5,u4,u3,u2]
  rw [au (show ¬((I.length:Nat):Int)<len I by show ¬((I.length:Nat):Int)<((I.length:Nat):Int);omega)]
  rfl
theorem F3 (K:Int) (e l:Bool) (I:List TI):∃b:aa,b.length+2=(oN K e l I).length/\∀K':Int,oN K' e l I=(if K'=4 then 123 else 91)::(b++[endC K']):=by
 refine ⟨(if e then [46,46] else [])++(Lib.join (I.map ct) [44]++(if l then [46,46] else [])),?_,λK'=>?_⟩
 ·unfold oN
  simp only [aN,aB,aY]
  omega
 ·unfold oN
  simp only [iB]
theorem PS {K K':Int} (hK:wZ K) (hK':K'=7 - K) {D:TD} {KF:Int} {DF:TD} {KT:Int} {DT:TD} {e l:Bool} {I:List TI} (h:smE D DF DT I) (hn:(oN K e l I).length<=1000000):
  (ob (kJ 20000000 K' D KF DF KT DT e l I) (u2 λv68 v69=>(ob (dn 20000000 (oN K e l I) v68 v69 K' D KF DF KT DT e l I) λv70=>(some v70))))=some true:=by
 have hK2:wZ K':=by unfold wZ at hK ⊢;omega
 rw [Jo h,ae hK2]
 unfold dn
 rw [CH h,EX]
 by_cases h0:(gD K' D KF DF KT DT e l I).2=0
 ·rw [ae h0,h0]
  obtain ⟨b,b1,b2⟩:=F3 K e l I
  simp only [ob,u2,b2 K,b2 K']
  have cutb:∀(a z:UInt8),ob (bx (List.length (a::(b++[z]))) (w64 ((len (a::(b++[z]))) - 1))) (λv2=>bx v2 1)=some 1/\bx (List.length (a::(b++[z]))) (w64 ((len (a::(b++[z]))) - 1))=some (b.length+1):=by
   intro a z
   have hl:(a::(b++[z])).length=b.length+2:=by simp
   have hw:w64 ((len (a::(b++[z]))) - 1)=((b.length+1:Nat):Int):=by
    have:len (a::(b++[z]))=((b.length+2:Nat):Int):=dP _ hl
    rw [this]
    show IntKind.wrap .i64 _=_
    rw [wrap_i64 _ (by omega) (by omega)];omega
   rw [hw,hl,dG (by omega)]
   exact ⟨dG (i:=1) (by omega),rfl⟩
  have cutd:∀(a z:UInt8),List.drop 1 (List.take (b.length+1) (a::(b++[z])))=b:=by intro a z;simp
  have b1':bx (b.length+1) (1:Int)=some 1:=dG (i:=1) (by omega)
  simp only [(cutb _ _).2,b1',cutd]
  have hne:(if K'=4 then (123:UInt8) else 91)≠(if K=4 then 123 else 91):=by
   rcases hK with rfl | rfl
   ·subst hK';decide
   ·subst hK';decide
  have:(((if K'=4 then (123:UInt8) else 91)::(b++[endC K']))==((if K=4 then 123 else 91)::(b++[endC K])))=false:=by
   rw [aM]
   intro h
   exact hne (List.cons.inj h).1
  rw [this]
  simp
 ·rw [ab h0]
  simp only [ob,u2]
  have e1:((gD K' D KF DF KT DT e l I).2==0)=false:=by simp [h0]
  have e2:((gD K' D KF DF KT DT e l I).2 != 0)=true:=by simp [h0]
  rw [e1,e2]
  rfl
theorem Az {K E0 E1 B:Int} (hK:natI K 256) (h0:natI E0 256) (h1:natI E1 256) (hB:natI B 256) {L:List TR} (hL:∀r∈L,wfR r):
  jc 20000000 K E0 E1 B L=some true:=by
 obtain ⟨k,D,KF,DF,KT,DT,e,l,I,hE,hR⟩:=E_of hK h0 h1 hB hL
 unfold jc
 rw [hE]
 simp only [ob,u9,u8,u7,u6,u5,u4,u3,u2,Jo hR.sm]
 rw [hR.first]
 have hj3:∀(s:aa) (x:Int),eP 20000000 s x k D KF DF KT DT e l I=some (s,x,!decide (wZ k),k,D,KF,DF,KT,DT,e,l,I):=by
  intro s x
  unfold eP
  by_cases k3:k=3
  ·rw [show (k != 3)=false from by simp [k3],ar (.inl k3)];rfl
  ·rw [show (k != 3)=true from by simp [k3],aj]
   by_cases k4:k=4
   ·rw [show (k != 4)=false from by simp [k4],ar (.inr k4)];rfl
   ·rw [show (k != 4)=true from by simp [k4],au (by rintro (h | h)<;>contradiction)];rfl
 by_cases hk:wZ k
 ·have P:=AI hk (by rw [hR.first]:(gD k D KF DF KT DT e l I).2=0)
  have oks:=Lx P hR.sm.2.2.2
  have h5:=hR.len
  have ok1:=λt ht=>(oks t ht).1
  have hp:=xH hk P.one P.most ok1 P.set
  have hl:=G9 (K:=k) (e:=e) (l:=l) P.most ok1
  obtain ⟨hD,hKF,hDF,hKT,hDT⟩:D=d0/\KF=0/\DF=d0/\KT=0/\DT=d0:=⟨P.d,P.kf,P.df,P.kt,P.dt⟩
  subst hD hKF hDF hKT hDT
  have hw:w8 (7 - k)=7 - k:=by
   rcases hk with rfl | rfl<;>rfl
  rw [ae hk,ae rfl]
  simp only [hj3,ar hk,dI,af,u12,u11,u10,u9,u8,u7,u6,u5,u4,u3,u2]
  unfold gP
  rw [Er (by omega),hp]
  simp only [OP,obs,sm,ob,u24,u23,u22,u21,u20,u19,u18,u17,u16,u15,u14,u13,u12,u11,u10,u9,u8,u7,u6,u5,u4,u3,u2]
  unfold gq
  rw [iO9 hk ok1 (by omega),Al _ _ _ _ _ _ _ _ _ (by omega)]
  simp only [rr,fp,dI,af,ob,show ((1:Int)==0)=false from rfl,u11,u10,u9,u8,u7,u6,u5,u4,u3,u2]
  rw [Na oks (by omega)]
  simp only [u10,u9,u8,u7,u6,u5,u4,u3,u2,hw]
  exact PS hk rfl hR.sm (by omega)
 ·rw [ab hk]
  simp only [hj3,au hk,ja,aj,u12,u11,u10,u9,u8,u7,u6,u5,u4,u3,u2]
  unfold gJ
  rw [EX]
  rfl
theorem od {n:Int} (h:(Lit.int .u8 n).wf=true):natI n 256:=⟨(Go.bounds_u8 h).1,by have:=(Go.bounds_u8 h).2;omega⟩
theorem LR {n:Int} (h:(Lit.int .u16 n).wf=true):natI n 65536:=⟨(Go.bounds_u16 h).1,by have:=(Go.bounds_u16 h).2;omega⟩
theorem QA {y:den [.i .u8,.bo,.i .u16,.i .u8,.i .u8,.i .u8,.i .u8,.i .u8,.i .u8,.i .u8,.i .u8,.i .u8,.bo,.i .u16,.i .u8,.i .u8,.i .u8,.i .u8,.i .u8,.i .u8,.i .u8]}
  (h:rK [.i .u8,.bo,.i .u16,.i .u8,.i .u8,.i .u8,.i .u8,.i .u8,.i .u8,.i .u8,.i .u8,.i .u8,.bo,.i .u16,.i .u8,.i .u8,.i .u8,.i .u8,.i .u8,.i .u8,.i .u8] y):wfR y:=by
 obtain ⟨h0,_,h2,h3,h4,h5,h6,h7,h8,h9,_,k0,_,k2,k3,k4,k5,k6,k7,k8,k9⟩:=h
 exact ⟨⟨od h0,LR h2,od h3,od h4,od h5,od h6,od h7,od h8,od h9⟩,⟨od k0,LR k2,od k3,od k4,od k5,od k6,od k7,od k8,od k9⟩⟩
end Go.Sh
