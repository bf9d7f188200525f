/- Plain proofs, kept as far as they are needed here (printed by prune.py).
   Conditions: none. -/
import Derived.Test.YtpkdacjndoiabaaGreatDoorLawLzb
set_option linter.unusedVariables false
set_option linter.unusedSimpArgs false
set_option maxRecDepth 100000
namespace Go.Sh
open Go.Abs
theorem Tc {g l:Bool} {d:aa} {x s:Int} (h:okY g l d x s):okY g l d x 0:=by
 unfold okY at h ⊢
 cases l with
 | true=>
  rw [ad rfl] at h ⊢
  unfold okL at h ⊢
  refine ⟨h.1,rc _,?_⟩
  omega
 | false=>
  rw [ab (by simp)] at h ⊢
  unfold okS at h ⊢
  obtain ⟨h1,h2,h3,h4,h5,h6,h7⟩:=h
  exact ⟨h1,h2,h3,h4,rc _,by omega,λh=>absurd h.1 (by omega)⟩
theorem GK (m a0 a2 a3 a4 a5 a6 a7 a8 a9:Nat) (g:Bool) (h2:a2<65536) (h3:a3<256) (h4:a4<256) (h5:a5<256) (h6:a6<256):
  ∃g' l dg x q mo d,aC (m+300) (a0:Int) g (a2:Int) (a3:Int) (a4:Int) (a5:Int) (a6:Int) (a7:Int) (a8:Int) (a9:Int)=some (g',l,dg,x,q,mo,d,((mksT (bh mo d) a7 a8 a9).1:Int),((mksT (bh mo d) a7 a8 a9).2.1:Int),((mksT (bh mo d) a7 a8 a9).2.2:Int))/\
   okY g' l dg x q/\oH g' dg x=false/\(a0%6≠3->hasX dg=false)/\dg.length<=5/\(q≠0->mo=[]/\d=[])/\(q=0->mo=monT (a5%40))/\
   (d=[]\/(mo∈((List.range 12).map λi=>two (i+1))++[[48,88],[49,88],[88,50],[88,88],[88,48],[88,57]]/\mo≠[]/\sea mo=0/\d=dayT (a6%40) mo)):=by
 obtain ⟨g',l,dg,x,q,e,hY,hd5,hx11,hnX⟩:=Jd m a0 a2 a3 a4 g h2 h3 h4
 have hL:=C4 hY hd5 hx11
 have t7:Int.tmod (a7:Int) 4=((a7%4:Nat):Int):=rfl
 have t8:Int.tmod (a8:Int) 4=((a8%4:Nat):Int):=rfl
 have t9:Int.tmod (a9:Int) 4=((a9%4:Nat):Int):=rfl
 obtain ⟨s1,s2,s3,s4,s5,s6⟩:=iL hY
 have tail:∀(mo d:aa) (o:Option (Bool×Bool×aa×Int×Int×aa×aa×Int×Int×Int)),
   (ob (ah (m+300) g' l dg x q mo d 0 0 0) λr=>(cond (decide ((0:Int)<r)) (ob (ah (m+300) g' l dg x q mo d (Int.tmod (a7:Int) 4) 0 0) λr=>(cond (decide ((1:Int)<r)) (ob (ah (m+300) g' l dg x q mo d (Int.tmod (a7:Int) 4) (Int.tmod (a8:Int) 4) 0) λr=>(cond (decide ((2:Int)<r)) (ob (ah (m+300) g' l dg x q mo d (Int.tmod (a7:Int) 4) (Int.tmod (a8:Int) 4) (Int.tmod (a9:Int) 4)) λr=>(cond (decide ((3:Int)<r)) none (some (g',l,dg,x,q,mo,d,(Int.tmod (a7:Int) 4),(Int.tmod (a8:Int) 4),(Int.tmod (a9:Int) 4))))) (some (g',l,dg,x,q,mo,d,(Int.tmod (a7:Int) 4),(Int.tmod (a8:Int) 4),0)))) (some (g',l,dg,x,q,mo,d,(Int.tmod (a7:Int) 4),0,0)))) (some (g',l,dg,x,q,mo,d,0,0,0))))=some (g',l,dg,x,q,mo,d,((mksT (bh mo d) a7 a8 a9).1:Int),((mksT (bh mo d) a7 a8 a9).2.1:Int),((mksT (bh mo d) a7 a8 a9).2.2:Int)):=by
  intro mo d _
  have hc:=mh mo d
  have:bh mo d=1\/bh mo d=2\/bh mo d=3:=by omega
  rw [cr,cr,cr,cr]
  rcases this with h | h | h<;>rw [h]<;>rfl
 unfold aC
 rw [e]
 simp only [ob,d4]
 rw [ig]
 by_cases hq:q=0
 ·rw [ad hq]
  rw [wV m _ _ _ _ _ a5 _ _ _ _ h5]
  have hml:=zO (show a5%40<40 by omega)
  show ∃g'_1 l_1 dg_1 x_1 q_1 mo_1 d,cond (!(monT (a5%40)==[])) _ _=_/\_
  by_cases hm0:monT (a5%40)=[]
  ·refine ⟨g',l,dg,x,q,[],[],?_,hY,hL,hnX,hd5,λh=>absurd hq h,λ_=>hm0.symm,.inl rfl⟩
   rw [hm0]
   exact tail [] [] none
  ·rw [aK.2 hm0]
   show ∃g'_1 l_1 dg_1 x_1 q_1 mo_1 d,ob (aG (m+300) g' l dg x q (monT (a5%40)) [] 0 0 0) _=_/\_
   rw [ka (m+300) (by omega)]
   show ∃g'_1 l_1 dg_1 x_1 q_1 mo_1 d,cond (sea (monT (a5%40))==0) _ _=_/\_
   rw [ig]
   by_cases hs:sea (monT (a5%40))=0
   ·rw [ad hs]
    have hin:=hml hs hm0
    rw [Di m _ _ _ _ _ _ a6 _ _ _ (monT (a5%40)) hin h6]
    exact ⟨g',l,dg,x,q,monT (a5%40),dayT (a6%40) (monT (a5%40)),tail _ _ none,hY,hL,hnX,hd5,λh=>absurd hq h,λ_=>rfl,.inr ⟨hin,hm0,hs,rfl⟩⟩
   ·rw [ab hs]
    exact ⟨g',l,dg,x,q,monT (a5%40),[],tail _ [] none,hY,hL,hnX,hd5,λh=>absurd hq h,λ_=>rfl,.inl rfl⟩
 ·rw [ab hq]
  exact ⟨g',l,dg,x,q,[],[],tail [] [] none,hY,hL,hnX,hd5,λ_=>⟨rfl,rfl⟩,λh=>absurd h hq,.inl rfl⟩
theorem Fq:((List.range 34).all λj=>!hasX (monT j))=true:=by decide +kernel
theorem FR:(((List.range 12).map λi=>two (i+1)).all λmo=>(List.range 32).all λj=>!hasX (dayT j mo))=true:=by decide +kernel
theorem Ns:((((List.range 12).map λi=>two (i+1))++[[48,88],[49,88],[88,50],[88,88],[88,48],[88,57]]).all λmo=>hasX mo||decide (mo∈(List.range 12).map λi=>two (i+1)))=true:=by decide +kernel
theorem NT (m a0 a2 a3 a4 a5 a6 a7 a8 a9:Nat) (g:Bool) (h2:a2<65536) (h3:a3<256) (h4:a4<256) (h5:a5<256) (h6:a6<256) (hf:a0%6≠3) (hm:a5%40<=33) (hd:a6%40<=31):
  ∃g' l dg x q mo d k0 k1 k2,aC (m+300) (a0:Int) g (a2:Int) (a3:Int) (a4:Int) (a5:Int) (a6:Int) (a7:Int) (a8:Int) (a9:Int)=some (g',l,dg,x,q,mo,d,((k0:Nat):Int),((k1:Nat):Int),((k2:Nat):Int))/\
   0<=q/\chkF g' l dg x 0 mo d (k0:Int) (k1:Int) (k2:Int)=0/\exD dg mo d 0=true/\mo.length<=18/\d.length<=18/\dg.length<=100:=by
 obtain ⟨g',l,dg,x,q,mo,d,e,hY,hL,hnX,hd5,hq1,hq0,hday⟩:=GK m a0 a2 a3 a4 a5 a6 a7 a8 a9 g h2 h3 h4 h5 h6
 have hX:=hnX hf
 have hmoX:hasX mo=false:=by
  by_cases h:q=0
  ·rw [hq0 h]
   have:=(cn.1 Fq) (a5%40) (iW.2 (by omega))
   simpa using this
  ·rw [(hq1 h).1];rfl
 have hmo3:mo=[]\/0<sea mo\/(sea mo=0/\dE mo 12=true):=by
  by_cases h:q=0
  ·rw [hq0 h];exact GA (by omega)
  ·exact .inl (hq1 h).1
 have hdd:d=[]\/(mo≠[]/\sea mo=0/\dE d 31=true/\fitD mo d=true/\hasX d=false):=by
  rcases hday with h | ⟨hin,hm0,hs,hde⟩
  ·exact .inl h
  ·have a1:=H9 (show a6%40<40 by omega) hin
   have a2:=Ep (show a6%40<40 by omega) hin
   rw [<-hde] at a1 a2
   by_cases h0:d=[]
   ·exact .inl h0
   ·right
    refine ⟨hm0,hs,a1.resolve_left h0,a2.resolve_left h0,?_⟩
    have b1:=(cn.1 Ns) mo hin
    rw [hmoX,uA,cg] at b1
    have b2:=(cn.1 ((cn.1 FR) mo b1)) (a6%40) (iW.2 (by omega))
    rw [hde]
    simpa using b2
 have hc:chkD g' l dg x 0 mo d ((mksT (bh mo d) a7 a8 a9).1:Int) ((mksT (bh mo d) a7 a8 a9).2.1:Int) ((mksT (bh mo d) a7 a8 a9).2.2:Int)=0:=
  Ap (Tc hY) hL (λh=>absurd h (by omega)) hmo3 (by
   rcases hdd with h | ⟨h1,h2,h3,_⟩
   ·exact .inl h
   ·exact .inr ⟨h1,h2,h3⟩) (uK _ _ _ _)
 refine ⟨g',l,dg,x,q,mo,d,_,_,_,e,KO hY,Dc hc ?_,?_,?_,?_,by omega⟩
 ·rcases hdd with h | ⟨_,_,_,h,_⟩
  ·exact .inl h
  ·exact .inr h
 ·unfold exD
  have:hasX d=false:=by
   rcases hdd with h | ⟨_,_,_,_,h⟩
   ·rw [h];rfl
   ·exact h
  rw [hX,hmoX,this];rfl
 ·rcases hmo3 with h | h | ⟨_,h⟩
  ·rw [h];simp
  ·have:=(A8 h).1;omega
  ·have:=(lO (by omega) h).1;omega
 ·rcases hdd with h | ⟨_,_,h,_⟩
  ·rw [h];simp
  ·have:=(lO (by omega) h).1;omega
theorem D5 (m a0 a2 a3 a4 a5 a6 a7 a8 a9:Nat) (g:Bool) (h0:a0<256) (h2:a2<65536) (h3:a3<256) (h4:a4<256) (h5:a5<256) (h6:a6<256):
  ∃g' l dg x mo d k0 k1 k2,bi (m+300) (a0:Int) g (a2:Int) (a3:Int) (a4:Int) (a5:Int) (a6:Int) (a7:Int) (a8:Int) (a9:Int)=some (g',l,dg,x,0,mo,d,((k0:Nat):Int),((k1:Nat):Int),((k2:Nat):Int))/\
   chkF g' l dg x 0 mo d (k0:Int) (k1:Int) (k2:Int)=0/\exD dg mo d 0=true/\mo.length<=18/\d.length<=18/\dg.length<=100:=by
 have t5:Int.tmod (a5:Int) 40=((a5%40:Nat):Int):=rfl
 have t6:Int.tmod (a6:Int) 40=((a6%40:Nat):Int):=rfl
 have t0:Int.tmod (a0:Int) 6=((a0%6:Nat):Int):=rfl
 have td:Int.tdiv ((a6%40:Nat):Int) 2=((a6%40 / 2:Nat):Int):=rfl
 have fin:∀(b0 b5 b6:Nat),b5<256->b6<256->b0%6≠3->b5%40<=33->b6%40<=31->
   ∃g' l dg x mo d k0 k1 k2,(ob (aC (m+300) (b0:Int) g (a2:Int) (a3:Int) (a4:Int) (b5:Int) (b6:Int) (a7:Int) (a8:Int) (a9:Int)) λr4606=>(cond (decide ((d4 r4606).1>0)) (some (r4606.1,r4606.2.1,r4606.2.2.1,r4606.2.2.2.1,(0:Int),(d4 r4606).2.1,(d4 r4606).2.2.1,(d4 r4606).2.2.2.1,(d8 r4606).1,(d8 r4606).2)) (some (r4606.1,r4606.2.1,r4606.2.2.1,r4606.2.2.2.1,(d4 r4606).1,(d4 r4606).2.1,(d4 r4606).2.2.1,(d4 r4606).2.2.2.1,(d8 r4606).1,(d8 r4606).2))))=some (g',l,dg,x,0,mo,d,((k0:Nat):Int),((k1:Nat):Int),((k2:Nat):Int))/\
   chkF g' l dg x 0 mo d (k0:Int) (k1:Int) (k2:Int)=0/\exD dg mo d 0=true/\mo.length<=18/\d.length<=18/\dg.length<=100:=by
  intro b0 b5 b6 c5 c6 c0 cm cd
  obtain ⟨g',l,dg,x,q,mo,d,k0,k1,k2,e,hq,r1,r2,r3,r4,r5⟩:=NT m b0 a2 a3 a4 b5 b6 a7 a8 a9 g h2 h3 h4 c5 c6 c0 cm cd
  refine ⟨g',l,dg,x,mo,d,k0,k1,k2,?_,r1,r2,r3,r4,r5⟩
  rw [e]
  simp only [ob,d4,d8]
  by_cases h:q>0
  ·rw [ar h];rfl
  ·obtain rfl:q=0:=by omega
   rw [aq h];rfl
 have w5:33<a5%40->IntKind.wrap .u8 (((a5%40:Nat):Int) - 33)=((a5%40 - 33:Nat):Int):=λh=>by rw [eZ _ (by omega) (by omega)];omega
 have w6:IntKind.wrap .u8 ((a6%40 / 2:Nat):Int)=((a6%40 / 2:Nat):Int):=eZ _ (by omega) (by omega)
 unfold bi
 rw [t0,t5,t6,td,w6]
 have four:∀b0:Nat,b0%6≠3->∀K:Nat->Nat->Option (Bool×Bool×aa×Int×Int×aa×aa×Int×Int×Int),
   (∀b5 b6:Nat,b5<256->b6<256->b5%40<=33->b6%40<=31->∃g' l dg x mo d k0 k1 k2,K b5 b6=some (g',l,dg,x,0,mo,d,((k0:Nat):Int),((k1:Nat):Int),((k2:Nat):Int))/\chkF g' l dg x 0 mo d (k0:Int) (k1:Int) (k2:Int)=0/\exD dg mo d 0=true/\mo.length<=18/\d.length<=18/\dg.length<=100)->
   ∃g' l dg x mo d k0 k1 k2,(cond (decide (((a5%40:Nat):Int)>33)) (cond (decide (((a6%40:Nat):Int)>31)) (K (a5%40 - 33) (a6%40 / 2)) (K (a5%40 - 33) a6)) (cond (decide (((a6%40:Nat):Int)>31)) (K a5 (a6%40 / 2)) (K a5 a6)))=some (g',l,dg,x,0,mo,d,((k0:Nat):Int),((k1:Nat):Int),((k2:Nat):Int))/\chkF g' l dg x 0 mo d (k0:Int) (k1:Int) (k2:Int)=0/\exD dg mo d 0=true/\mo.length<=18/\d.length<=18/\dg.length<=100:=by
  intro b0 hb0 K hK
  by_cases h5':33<a5%40
  ·rw [ar (show ((a5%40:Nat):Int)>33 by omega)]
   by_cases h6':31<a6%40
   ·rw [ar (show ((a6%40:Nat):Int)>31 by omega)]
    exact hK _ _ (by omega) (by omega) (by omega) (by omega)
   ·rw [aq (show ¬((a6%40:Nat):Int)>31 by omega)]
    exact hK _ _ (by omega) (by omega) (by omega) (by omega)
  ·rw [aq (show ¬((a5%40:Nat):Int)>33 by omega)]
   by_cases h6':31<a6%40
   ·rw [ar (show ((a6%40:Nat):Int)>31 by omega)]
    exact hK _ _ (by omega) (by omega) (by omega) (by omega)
   ·rw [aq (show ¬((a6%40:Nat):Int)>31 by omega)]
    exact hK _ _ (by omega) (by omega) (by omega) (by omega)
 have w5':∀{A:Type} (F:Int->Int->Option A) (b6:Nat),(cond (decide (((a5%40:Nat):Int)>33)) (F (IntKind.wrap .u8 (((a5%40:Nat):Int) - 33)) (b6:Int)) (F (a5:Int) (b6:Int)))=(cond (decide (((a5%40:Nat):Int)>33)) (F ((a5%40 - 33:Nat):Int) (b6:Int)) (F (a5:Int) (b6:Int))):=by
  intro A F b6
  by_cases h:33<a5%40
  ·rw [w5 h]
  ·rw [aq (show ¬((a5%40:Nat):Int)>33 by omega)];rfl
 have w5c:33<a5%40\/¬33<a5%40:=by omega
 by_cases c3:a0%6=3
 ·rw [show (((a0%6:Nat):Int)==3)=true by rw [c3];rfl]
  simp only [aj]
  rcases w5c with h | h
  ·rw [w5 h];exact four 0 (by omega) (λb5 b6=>_) (λb5 b6 c5 c6 cm cd=>fin 0 b5 b6 c5 c6 (by omega) cm cd)
  ·have hx:=four 0 (by omega) (λb5 b6=>_) (λb5 b6 c5 c6 cm cd=>fin 0 b5 b6 c5 c6 (by omega) cm cd)
   rw [aq (show ¬((a5%40:Nat):Int)>33 by omega)] at hx ⊢
   exact hx
 ·rw [show (((a0%6:Nat):Int)==3)=false from aK.2 (by omega)]
  simp only [af]
  by_cases c4:a0%6=4
  ·rw [show (((a0%6:Nat):Int)==4)=true by rw [c4];rfl]
   simp only [aj]
   rcases w5c with h | h
   ·rw [w5 h];exact four 0 (by omega) (λb5 b6=>_) (λb5 b6 c5 c6 cm cd=>fin 0 b5 b6 c5 c6 (by omega) cm cd)
   ·have hx:=four 0 (by omega) (λb5 b6=>_) (λb5 b6 c5 c6 cm cd=>fin 0 b5 b6 c5 c6 (by omega) cm cd)
    rw [aq (show ¬((a5%40:Nat):Int)>33 by omega)] at hx ⊢
    exact hx
  ·rw [show (((a0%6:Nat):Int)==4)=false from aK.2 (by omega)]
   simp only [af]
   rcases w5c with h | h
   ·rw [w5 h];exact four a0 c3 (λb5 b6=>_) (λb5 b6 c5 c6 cm cd=>fin a0 b5 b6 c5 c6 c3 cm cd)
   ·have hx:=four a0 c3 (λb5 b6=>_) (λb5 b6 c5 c6 cm cd=>fin a0 b5 b6 c5 c6 c3 cm cd)
    rw [aq (show ¬((a5%40:Nat):Int)>33 by omega)] at hx ⊢
    exact hx
theorem Jn {dg m d:aa} (h:exD dg m d 0=true):exD dg m [] 0=true/\exD dg [] [] 0=true:=by
 unfold exD at h ⊢
 simp only [ay,jM,sY] at h
 obtain ⟨⟨h1,h2,h3⟩,_⟩:=h
 rw [h1,h2]
 exact ⟨rfl,rfl⟩
def BD (g l:Bool) (dg:aa) (x q:Int) (m d:aa) (k0 k1 k2:Int):Bool:=
 (((g==false)&&((l==false)&&((dg==([]:aa))&&((x==0)&&((q==0)&&true)))))&&((m==([]:aa))&&((d==([]:aa))&&(((k0==0)&&((k1==0)&&((k2==0)&&true)))&&true))))
noncomputable def chkB (K:Int) (g l:Bool) (dg:aa) (x q:Int) (m d:aa) (k0 k1 k2:Int):Int:=
 if K=1 then (if chkF g l dg x q m d k0 k1 k2=0 then (if exD dg m d q=true then 0 else 11) else chkF g l dg x q m d k0 k1 k2) else if K=2\/K=3 then (if BD g l dg x q m d k0 k1 k2=true then 0 else 5) else 18
def fS9 (e1 e2 K1 K2 lo hi:Int):Int:=if e1≠0 then e1 else if e2≠0 then e2 else if K1≠1/\K2≠1 then 11 else if K1≠1\/K2≠1 then 0 else if lo>hi then 11 else 0
section
variable {K:Int} {g l:Bool} {dg:List UInt8} {x q:Int} {m d:List UInt8} {k0 k1 k2:Int} (hml:m.length<=18) (hdl:dg.length<=100) (hd18:d.length<=18) (h0:0<=k0) (h1:0<=k1) (h2:0<=k2)
include hml hdl hd18 h0 h1 h2
theorem Ea:kJ 20000000 K g l dg x q m d k0 k1 k2=some (chkB K g l dg x q m d k0 k1 k2):=by
 unfold kJ chkB
 rw [yI hml hdl h0 h1 h2,Ed 20000000 g l dg x q m d k0 k1 k2 (by omega) (by omega) (by omega)]
 simp only [ob]
 by_cases k1':K=1
 ·subst k1'
  rw [ad rfl]
  simp only [BEq.rfl,aj]
  by_cases hc:chkF g l dg x q m d k0 k1 k2=0
  ·rw [ad hc,hc]
   by_cases he:exD dg m d q=true
   ·rw [ad he,he];rfl
   ·rw [ab he]
    rw [Eh] at he
    rw [he];rfl
  ·rw [ab hc,bne0 hc];rfl
 ·rw [ab k1',aK.2 k1']
  simp only [af]
  have hn:(!(((g==false)&&((l==false)&&((dg==([]:aa))&&((x==0)&&((q==0)&&true)))))&&((m==([]:aa))&&((d==([]:aa))&&(((k0==0)&&((k1==0)&&((k2==0)&&true)))&&true)))))=!(BD g l dg x q m d k0 k1 k2):=rfl
  rw [hn]
  by_cases k2':K=2
  ·subst k2'
   rw [ad (.inl rfl)]
   cases BD g l dg x q m d k0 k1 k2<;>rfl
  ·rw [aK.2 k2']
   by_cases k3':K=3
   ·subst k3'
    rw [ad (.inr rfl)]
    cases BD g l dg x q m d k0 k1 k2<;>rfl
   ·rw [aK.2 k3',ab (by omega)];rfl
theorem uY:dK 20000000 K g l dg x q m d k0 k1 k2=some (chkB K g l dg x q m d k0 k1 k2):=by
 unfold dK chkB
 rw [uP hdl h0 h1 h2,AT 20000000 g l dg x q m d k0 k1 k2 (by omega) (by omega) (by omega) (by omega)]
 simp only [ob]
 by_cases k1':K=1
 ·subst k1'
  rw [ad rfl]
  simp only [BEq.rfl,aj]
  by_cases hc:chkF g l dg x q m d k0 k1 k2=0
  ·rw [ad hc,hc]
   by_cases he:exD dg m d q=true
   ·rw [ad he,ad he];rfl
   ·rw [ab he,ab he];rfl
  ·rw [ab hc,aK.2 hc];rfl
 ·rw [ab k1',aK.2 k1']
  simp only [af]
  have hn:(!(((g==false)&&((l==false)&&((dg==([]:aa))&&((x==0)&&((q==0)&&true)))))&&((m==([]:aa))&&((d==([]:aa))&&(((k0==0)&&((k1==0)&&((k2==0)&&true)))&&true)))))=!(BD g l dg x q m d k0 k1 k2):=rfl
  rw [hn]
  by_cases k2':K=2
  ·subst k2'
   rw [ad (.inl rfl)]
   cases BD g l dg x q m d k0 k1 k2<;>rfl
  ·rw [aK.2 k2']
   by_cases k3':K=3
   ·subst k3'
    rw [ad (.inr rfl)]
    cases BD g l dg x q m d k0 k1 k2<;>rfl
   ·rw [aK.2 k3',ab (by omega)];rfl
theorem tG (hc:chkB K g l dg x q m d k0 k1 k2=0) (hk:K=1):chkF g l dg x q m d k0 k1 k2=0/\exD dg m d q=true:=by
 have _u:=And.intro hml (And.intro hdl (And.intro hd18 (And.intro h0 (And.intro h1 h2))))
 unfold chkB at hc
 rw [ad hk] at hc
 by_cases h:chkF g l dg x q m d k0 k1 k2=0
 ·rw [ad h] at hc
  by_cases he:exD dg m d q=true
  ·exact ⟨h,he⟩
  ·rw [ab he] at hc;cases hc
 ·rw [ab h] at hc;exact absurd hc h
end
theorem RJ (n:Nat) (a b:Int):g9 n a b=some (if a<b then -1 else if a>b then 1 else 0):=by
 unfold g9 jo
 simp only [ob,fh,af]
 by_cases h:a<b
 ·rw [ar h,ad h];rfl
 ·rw [aq h,ab h]
  by_cases h2:a>b
  ·rw [ar h2,ad h2];rfl
  ·rw [aq h2,ab h2];rfl
theorem Em (a b:Int):∃r,je 20000000 0 a 0 b=some r/\decide (r>0)=decide (a>b):=by
 have e8:kT 20000000 0 0=some 0:=rfl
 have o1:nc 20000000 [0,-1]=some (-1):=by kernel_rfl
 have o2:nc 20000000 [0,1]=some 1:=by kernel_rfl
 have o3:nc 20000000 [0,0]=some 0:=by kernel_rfl
 unfold je
 rw [e8,RJ]
 simp only [ob]
 by_cases h:a<b
 ·rw [ad h,o1]
  exact ⟨_,rfl,by rw [aq (show ¬a>b by omega)];rfl⟩
 ·rw [ab h]
  by_cases h2:a>b
  ·rw [ad h2,o2]
   exact ⟨_,rfl,by rw [ar h2];rfl⟩
  ·rw [ab h2,o3]
   exact ⟨_,rfl,by rw [aq h2];rfl⟩
theorem bne1 {K:Int} (h:K≠1):(K != 1)=true:=by simp [h]
section
variable {K:Int} {g l:Bool} {dg:List UInt8} {x q:Int} {m d:List UInt8} {k0 k1 k2:Int} {K':Int} {g' l':Bool} {dg':List UInt8} {x' q':Int} {m' d':List UInt8} {p0 p1 p2:Int} (hml:m.length<=18) (hdl:dg.length<=100) (hd18:d.length<=18) (h0:0<=k0) (h1:0<=k1) (h2:0<=k2) (hml':m'.length<=18) (hdl':dg'.length<=100) (hd18':d'.length<=18) (h0':0<=p0) (h1':0<=p1) (h2':0<=p2)
include hml hdl hd18 h0 h1 h2 hml' hdl' hd18' h0' h1' h2'
theorem Ol:jZ 20000000 K g l dg x q m d k0 k1 k2 K' g' l' dg' x' q' m' d' p0 p1 p2=some (fS9 (chkB K g l dg x q m d k0 k1 k2) (chkB K' g' l' dg' x' q' m' d' p0 p1 p2) K K' (mi g dg x m d).1 (mi g' dg' x' m' d').2):=by
 unfold jZ fS9
 rw [Ea hml hdl hd18 h0 h1 h2,Ea hml' hdl' hd18' h0' h1' h2']
 simp only [ob]
 by_cases c1:chkB K g l dg x q m d k0 k1 k2=0
 ·rw [ab (by omega),c1]
  by_cases c2:chkB K' g' l' dg' x' q' m' d' p0 p1 p2=0
  ·rw [ab (by omega),c2]
   simp only [fh,af]
   by_cases e1:K=1
   ·rw [show (K != 1)=false by rw [e1];rfl]
    simp only [af]
    by_cases e2:K'=1
    ·rw [show (K' != 1)=false by rw [e2];rfl,ab (by omega),ab (by omega)]
     simp only [af]
     obtain ⟨f1,g1⟩:=tG hml hdl hd18 h0 h1 h2 c1 e1
     obtain ⟨f2,g2⟩:=tG hml' hdl' hd18' h0' h1' h2' c2 e2
     rw [Br hml hdl hd18 h0 h1 h2,Br hml' hdl' hd18' h0' h1' h2',ad f1,ad g1,ad f2,ad g2]
     simp only [ob]
     obtain ⟨r,r1,r2⟩:=Em (mi g dg x m d).1 (mi g' dg' x' m' d').2
     rw [r1]
     simp only [r2]
     by_cases h:(mi g dg x m d).1>(mi g' dg' x' m' d').2
     ·rw [ar h,ad h];rfl
     ·rw [aq h,ab h];rfl
    ·rw [bne1 e2,ab (by omega),ad (by omega)];rfl
   ·rw [bne1 e1]
    by_cases e2:K'=1
    ·rw [show (K' != 1)=false by rw [e2];rfl,ab (by omega),ad (by omega)];rfl
    ·rw [bne1 e2,ad (by omega)];rfl
  ·rw [ad c2,bne0 c2];rfl
 ·rw [ad c1,bne0 c1];rfl
theorem Ky:eh 20000000 K g l dg x q m d k0 k1 k2 K' g' l' dg' x' q' m' d' p0 p1 p2=some (fS9 (chkB K g l dg x q m d k0 k1 k2) (chkB K' g' l' dg' x' q' m' d' p0 p1 p2) K K' (mi g dg x m d).1 (mi g' dg' x' m' d').2):=by
 unfold eh fS9
 rw [uY hml hdl hd18 h0 h1 h2,uY hml' hdl' hd18' h0' h1' h2']
 simp only [ob]
 by_cases c1:chkB K g l dg x q m d k0 k1 k2=0
 ·rw [ab (by omega),c1]
  by_cases c2:chkB K' g' l' dg' x' q' m' d' p0 p1 p2=0
  ·rw [ab (by omega),c2]
   simp only [fh,af]
   by_cases e1:K=1
   ·rw [show (K != 1)=false by rw [e1];rfl,show (K==1)=true by rw [e1];rfl]
    simp only [af,aj]
    by_cases e2:K'=1
    ·rw [show (K'==1)=true by rw [e2];rfl,ab (by omega),ab (by omega)]
     simp only [aj]
     obtain ⟨f1,g1⟩:=tG hml hdl hd18 h0 h1 h2 c1 e1
     obtain ⟨f2,g2⟩:=tG hml' hdl' hd18' h0' h1' h2' c2 e2
     obtain ⟨rfl,E1⟩:=tP f1 g1
     obtain ⟨rfl,E2⟩:=tP f2 g2
     rw [sP E1 hdl,sP E2 hdl']
     simp only [ob]
     by_cases h:(mi g dg x m d).1>(mi g' dg' x' m' d').2
     ·rw [ar h,ad h];rfl
     ·rw [aq h,ab h];rfl
    ·rw [aK.2 e2,ab (by omega),ad (by omega)];rfl
   ·rw [bne1 e1,aK.2 e1]
    by_cases e2:K'=1
    ·rw [show (K' != 1)=false by rw [e2];rfl,ab (by omega),ad (by omega)];rfl
    ·rw [bne1 e2,ad (by omega)];rfl
  ·rw [ad c2,bne0 c2];rfl
 ·rw [ad c1,bne0 c1];rfl
end
theorem zK (y:Int) {m:Nat} (h1:1<=m) (h2:m<=23):dayM y m<dayM y (m+1):=by
 by_cases h:m<=12
 ·have:=uU y h1 h
  have:=ia y (m:Int)
  omega
 ·have e1:=rP y (m:=m - 12) (by omega) (by omega)
  have e2:=rP y (m:=m - 12+1) (by omega) (by omega)
  have e3:=uU (y+1) (m:=m - 12) (by omega) (by omega)
  have:=ia (y+1) ((m - 12:Nat):Int)
  rw [show m - 12+12=m by omega] at e1
  rw [show m - 12+1+12=m+1 by omega] at e2
  omega
theorem HZ (y:Int) {a:Nat} (h1:1<=a):∀c,1<=c->a+c<=24->dayM y a<dayM y (a+c)
 | 0,h,_=>absurd h (by omega)
 | c+1,_,h2=>by
  have hs:=zK y (m:=a+c) (by omega) (by omega)
  by_cases h:c=0
  ·subst h;exact hs
  ·have:=HZ y h1 c (by omega) (by omega)
   rw [show a+(c+1)=a+c+1 by omega]
   omega
theorem Oi {g l:Bool} {dg:aa} {x:Int} {m d:aa} (E:Exact g l dg x m d):(mi g dg x m d).1<=(mi g dg x m d).2:=by
 unfold mi
 by_cases hm:m=[]
 ·rw [ad hm]
  have:=uv (yOf g dg x)
  simp only []
  split at this<;>omega
 ·rw [ab hm]
  by_cases hs:0<sea m
  ·rw [ad hs]
   rcases E.mon with h | ⟨j,hj,e,_⟩ | ⟨h,_⟩
   ·exact absurd h hm
   ·obtain ⟨f,c,_,a1,a2,a3,a4,_,a6,a7⟩:=Cb hj
    rw [e,a6,a7]
    have:=HZ (yOf g dg x) a1 c (by omega) (by omega)
    simp only []
    omega
   ·omega
  ·rw [ab hs]
   rcases E.mon with h | ⟨j,hj,e,_⟩ | ⟨_,a1,a2,_⟩
   ·exact absurd h hm
   ·rw [e,jx hj] at hs;omega
   ·by_cases hd:d=[]
    ·rw [ad hd]
     have:=zK (yOf g dg x) a1 (by omega)
     simp only []
     omega
    ·rw [ab hd]
     exact rc _
theorem B_of (m a0 a1 a3 a4 a5 a6 a7 a8 a9 a10:Nat) (g:Bool) (h1:a1<256) (h3:a3<65536) (h4:a4<256) (h5:a5<256) (h6:a6<256) (h7:a7<256):
  ∃K g' l dg x mo d k0 k1 k2,bJ (m+300) (a0:Int) (a1:Int) g (a3:Int) (a4:Int) (a5:Int) (a6:Int) (a7:Int) (a8:Int) (a9:Int) (a10:Int)=some (K,g',l,dg,x,0,mo,d,((k0:Nat):Int),((k1:Nat):Int),((k2:Nat):Int))/\
   chkB K g' l dg x 0 mo d (k0:Int) (k1:Int) (k2:Int)=0/\mo.length<=18/\d.length<=18/\dg.length<=100/\(K=1\/((K=2\/K=3)/\g'=false/\l=false/\dg=[]/\x=0/\mo=[]/\d=[]/\k0=0/\k1=0/\k2=0)):=by
 have t0:Int.tmod (a0:Int) 6=((a0%6:Nat):Int):=rfl
 unfold bJ
 rw [t0]
 by_cases c0:a0%6=0
 ·rw [c0]
  exact ⟨2,false,false,[],0,[],[],0,0,0,rfl,rfl,by simp,by simp,by simp,.inr ⟨.inl rfl,rfl,rfl,rfl,rfl,rfl,rfl,rfl,rfl,rfl⟩⟩
 ·rw [show (((a0%6:Nat):Int)==0)=false from aK.2 (by omega)]
  by_cases c1:a0%6=1
  ·rw [c1]
   exact ⟨3,false,false,[],0,[],[],0,0,0,rfl,rfl,by simp,by simp,by simp,.inr ⟨.inr rfl,rfl,rfl,rfl,rfl,rfl,rfl,rfl,rfl,rfl⟩⟩
  ·rw [show (((a0%6:Nat):Int)==1)=false from aK.2 (by omega)]
   obtain ⟨g',l,dg,x,mo,d,k0,k1,k2,e,hc,he,hml,hd18,hdl⟩:=D5 m a1 a3 a4 a5 a6 a7 a8 a9 a10 g h1 h3 h4 h5 h6 h7
   refine ⟨1,g',l,dg,x,mo,d,k0,k1,k2,?_,?_,hml,hd18,hdl,.inl rfl⟩
   ·simp only [af]
    rw [e];rfl
   ·unfold chkB
    rw [ad rfl,ad hc,ad he]
def smT (x:TD):Prop:=x.2.2.2.2.2.1.length<=18/\x.2.2.1.length<=100/\x.2.2.2.2.2.2.1.length<=18/\0<=x.2.2.2.2.2.2.2.1/\0<=x.2.2.2.2.2.2.2.2.1/\0<=x.2.2.2.2.2.2.2.2.2
noncomputable def cF (x:TD):Int:=chkF x.1 x.2.1 x.2.2.1 x.2.2.2.1 x.2.2.2.2.1 x.2.2.2.2.2.1 x.2.2.2.2.2.2.1 x.2.2.2.2.2.2.2.1 x.2.2.2.2.2.2.2.2.1 x.2.2.2.2.2.2.2.2.2
def exT (x:TD):Bool:=exD x.2.2.1 x.2.2.2.2.2.1 x.2.2.2.2.2.2.1 x.2.2.2.2.1
def dyT (x:TD):Int×Int:=mi x.1 x.2.2.1 x.2.2.2.1 x.2.2.2.2.2.1 x.2.2.2.2.2.2.1
def seT (x:TD):Int:=sea x.2.2.2.2.2.1
def coT (x:TD):Nat:=bh x.2.2.2.2.2.1 x.2.2.2.2.2.2.1
noncomputable def plT (x:TD):Bool:=decide (cF x=0)&&(exT x&&!decide (0<seT x))
theorem yC:smT d0:=by unfold smT;simp
theorem fcT {x:TD} (h:smT x):ap10 (be 20000000) x=some (cF x):=yI h.1 h.2.1 h.2.2.2.1 h.2.2.2.2.1 h.2.2.2.2.2
theorem rcT {x:TD} (h:smT x):ap10 (bL 20000000) x=some (cF x):=uP h.2.1 h.2.2.2.1 h.2.2.2.2.1 h.2.2.2.2.2
theorem reT {x:TD} (h:smT x):ap10 (aY 20000000) x=some (if exT x then 1 else 0):=by
 obtain ⟨a,b,c,_⟩:=h
 exact AT 20000000 _ _ _ _ _ _ _ _ _ _ (by omega) (by omega) (by omega) (by omega)
theorem rsT (x:TD):ap10 (aG 20000000) x=some (seT x):=ka 20000000 (by omega) _ _ _ _ _ _ _ _ _ _
theorem rcoT (x:TD):ap10 (ah 20000000) x=some ((coT x:Nat):Int):=cr 20000000 _ _ _ _ _ _ _ _ _ _
theorem fpT {x:TD} (h:smT x):ap10 (aV 20000000) x=some (if x.2.2.2.2.2.2.1=[] then (if 0<seT x then 0 else if x.2.2.2.2.2.1=[] then 1 else 2) else 3):=Hm 20000000 _ _ _ _ _ _ _ _ _ _ h.1
theorem fmT {x:TD} (h:smT x):ap10 (eG 20000000) x=some (hasX x.2.2.1||(hasX x.2.2.2.2.2.1||hasX x.2.2.2.2.2.2.1)):=by
 obtain ⟨a,b,c,_⟩:=h
 exact zF 20000000 _ _ _ _ _ _ _ _ _ _ (by omega) (by omega) (by omega)
theorem fdT {x:TD} (h:smT x):ap10 (fg 20000000) x=some (if cF x=0 then (if exT x=true then (0,(dyT x).1,0,(dyT x).2,0) else (0,0,0,0,1)) else (0,0,0,0,cF x)):=Br h.1 h.2.1 h.2.2.1 h.2.2.2.1 h.2.2.2.2.1 h.2.2.2.2.2
theorem G8 {x:TD} (hc:cF x=0) (he:exT x=true):x.2.2.2.2.1=0/\Exact x.1 x.2.1 x.2.2.1 x.2.2.2.1 x.2.2.2.2.2.1 x.2.2.2.2.2.2.1:=tP hc he
theorem rdT {x:TD} (h:smT x) (hc:cF x=0) (he:exT x=true):ap10 (aP 20000000) x=some (dyT x):=by
 obtain ⟨h0,E⟩:=G8 hc he
 have:=sP (k0:=x.2.2.2.2.2.2.2.1) (k1:=x.2.2.2.2.2.2.2.2.1) (k2:=x.2.2.2.2.2.2.2.2.2) E h.2.1
 rw [<-h0] at this
 exact this
theorem ML {x:TD} (hc:cF x=0) (he:exT x=true):(dyT x).1<=(dyT x).2:=Oi (G8 hc he).2
theorem qC {x:TD} (hc:cF x=0):(x.2.2.2.2.2.1=[]\/x.2.2.2.2.2.1.length=2)/\(x.2.2.2.2.2.2.1=[]\/x.2.2.2.2.2.2.1.length=2)/\(x.2.2.2.2.2.2.1≠[]->x.2.2.2.2.2.1≠[]/\seT x=0):=by
 obtain ⟨_,a,b,_,c⟩:=mP (mZ hc)
 exact ⟨a,b,c⟩
theorem mC {x y:TD}:eqD x y=true↔x=y:=by
 obtain ⟨a1,a2,a3,a4,a5,a6,a7,a8,a9,a10⟩:=x
 obtain ⟨b1,b2,b3,b4,b5,b6,b7,b8,b9,b10⟩:=y
 simp [and_assoc]
theorem Dz {x:TD} (h:smT x):lX 20000000 x=some (exT x):=by
 unfold lX
 rw [fmT h]
 simp only [ob,exT,exD]
 cases (hasX x.2.2.1||(hasX x.2.2.2.2.2.1||hasX x.2.2.2.2.2.2.1))<;>rfl
theorem xZ {x:TD} (h:smT x):jV 20000000 x=some (plT x):=by
 unfold jV plT
 rw [fcT h,Dz h,fpT h]
 simp only [ob]
 by_cases hc:cF x=0
 ·rw [hc]
  cases he:exT x
  ·rfl
  ·show some ((if _ then _ else _) != (0:Int))=some (true&&(true&&!decide (0<seT x)))
   obtain ⟨_,_,h3⟩:=qC hc
   by_cases hd:x.2.2.2.2.2.2.1=[]
   ·rw [ad hd]
    by_cases hs:0<seT x
    ·rw [ad hs,ar hs];rfl
    ·rw [ab hs,aq hs]
     by_cases hm:x.2.2.2.2.2.1=[]
     ·rw [ad hm];rfl
     ·rw [ab hm];rfl
   ·rw [ab hd,(h3 hd).2];rfl
 ·rw [aq hc,show (cF x==0)=false from by simp [hc]];rfl
theorem qL {x:TD} (h:smT x):aW 20000000 x=some (if plT x then 1 else 0):=by
 unfold aW plT
 rw [rcT h,reT h,rsT x]
 simp only [ob]
 by_cases hc:cF x=0
 ·rw [hc]
  cases he:exT x
  ·rfl
  ·by_cases hs:0<seT x
   ·have h2:decide (seT x>0)=true:=ar hs
    rw [ar hs];rfl
   ·have h2:decide (seT x>0)=false:=aq hs
    rw [aq hs];rfl
 ·rw [aq hc,show (cF x != 0)=true from by simp [hc]];rfl
theorem jA {x:TD}:plT x=true↔cF x=0/\exT x=true/\¬0<seT x:=by
 unfold plT
 simp [and_assoc]
noncomputable def ordB (x y:TD):Bool:=(plT x&&plT y)&&(decide (coT x=coT y)&&decide ((dyT x).1<=(dyT y).1))
theorem xA {x:TD} (hc:cF x=0) (hs:¬0<seT x):(if x.2.2.2.2.2.2.1=[] then (if 0<seT x then (0:Int) else if x.2.2.2.2.2.1=[] then 1 else 2) else 3)=((coT x:Nat):Int):=by
 obtain ⟨_,_,h3⟩:=qC hc
 unfold coT bh
 by_cases hd:x.2.2.2.2.2.2.1=[]
 ·rw [ad hd,ab hs]
  by_cases hm:x.2.2.2.2.2.1=[]
  ·simp [hm,hd]
  ·simp [hm,hd]
 ·have hm:=(h3 hd).1
  simp [hd,hm]
theorem FQ {x y:TD} (hx:smT x) (hy:smT y):lA 20000000 x y=some (ordB x y):=by
 unfold lA ordB
 rw [xZ hx,xZ hy]
 cases px:plT x
 ·rfl
 cases py:plT y
 ·rfl
 obtain ⟨c1,e1,s1⟩:=jA.1 px
 obtain ⟨c2,e2,s2⟩:=jA.1 py
 rw [fpT hx,fpT hy,fdT hx,fdT hy,xA c1 s1,xA c2 s2,ad c1,ad c2,ad e1,ad e2]
 simp only [ob,u5,u4,u3,u2,dX,af,Bool.and_self,lW]
 by_cases hcc:coT x=coT y
 ·rw [hcc,ar rfl]
  obtain ⟨r,q1,q2⟩:=Em (dyT x).1 (dyT y).1
  simp only [fh,af,q1,lW]
  refine gh some ?_
  have:decide (r<=0)=!decide (r>0):=by
   by_cases hr:r<=0
   ·rw [ar hr,aq (by omega)];rfl
   ·rw [aq hr,ar (by omega)];rfl
  rw [this,q2]
  by_cases hd:(dyT x).1<=(dyT y).1
  ·rw [ar hd,aq (by omega)];rfl
  ·rw [aq hd,ar (by omega)];rfl
 ·have:(((coT x:Nat):Int) != ((coT y:Nat):Int))=true:=by simp;omega
  rw [this,aq hcc];rfl
noncomputable def itE (x:TD) (r:Bool) (y:TD) (all:Bool):Int:=
 if cF x≠0 then cF x else if r=true/\cF y≠0 then cF y else if r=false/\eqD y d0=false then 5 else if r=true/\ordB x y=false then 10 else if all=true/\exT x=false then 10 else 0
theorem Aw {x y:TD} (r:Bool) (hx:smT x) (hy:smT y) (K:Int) (hc:cF x=0) (hcy:¬(r=true/\cF y≠0)):dp 20000000 5 10 10 x r y K=some (itE x r y (K==4)):=by
 unfold dp o5 oG oI itE
 rw [FQ hx hy,Dz hx,ab (by simpa using hc),ab hcy]
 cases r
 ·generalize eqD y d0=z
  cases z
  ·rfl
  ·cases (K==4)
   ·rfl
   ·cases exT x<;>rfl
 ·simp only [ob,dX,af,aj,reduceCtorEq,vZ,aE,iY]
  cases ordB x y
  ·rfl
  ·simp only [dX,af,Bool.true_eq_false,aE]
   cases (K==4)
   ·rfl
   ·cases exT x<;>rfl
theorem B6 {x y:TD} (r:Bool) (hx:smT x) (hy:smT y) (K:Int):fL 20000000 x r y K=some (if K=3\/K=4 then itE x r y (K==4) else 18):=by
 have main:(ob (ap10 (be 20000000) x) λv0=>(cond (v0 != 0) (some v0) (cond r (ob (ap10 (be 20000000) y) λv1=>(cond (v1 != 0) (some v1) (ob (dp 20000000 5 10 10 x r y K) λv2=>(some v2)))) (ob (dp 20000000 5 10 10 x r y K) λv3=>(some v3)))))=some (itE x r y (K==4)):=by
  rw [fcT hx]
  simp only [ob]
  by_cases hc:cF x=0
  ·rw [show (cF x != 0)=false from by simp [hc],af]
   cases r
   ·rw [Aw false hx hy K hc (by simp)];rfl
   ·rw [aj,fcT hy]
    simp only
    by_cases hcy:cF y=0
    ·rw [show (cF y != 0)=false from by simp [hcy],af,Aw true hx hy K hc (by simp [hcy])]
    ·rw [show (cF y != 0)=true from by simp [hcy],aj]
     unfold itE
     rw [ab (by simpa using hc),ad ⟨rfl,hcy⟩]
  ·rw [show (cF x != 0)=true from by simp [hc],aj]
   unfold itE
   rw [ad hc]
 unfold fL
 by_cases h3:K=3
 ·subst h3;exact main.trans (by rfl)
 ·rw [show (K != 3)=true from by simp [h3],aj]
  by_cases h4:K=4
  ·subst h4;exact main.trans (by rfl)
  ·rw [show (K != 4)=true from by simp [h4],aj,ab (by omega)]
theorem QM {x y:TD} {r all:Bool} (h:cF x≠0):itE x r y all=cF x:=ad h
theorem MZ {x y:TD} {all:Bool} (hc:cF x=0) (h:cF y≠0):itE x true y all=cF y:=by
 unfold itE;rw [ab (λh=>h hc),ad ⟨rfl,h⟩]
theorem IT {x y:TD} {all:Bool} (hc:cF x=0):itE x false y all=if eqD y d0=false then 5 else if all=true/\exT x=false then 10 else 0:=by
 have h1:(false=true/\cF y≠0)↔False:=by simp
 have h2:(false=true/\ordB x y=false)↔False:=by simp
 have h3:(false=false/\eqD y d0=false)↔eqD y d0=false:=by simp
 unfold itE;rw [ab (λh=>h hc)];simp only [h1,h2,aE,iY]
theorem N7 {x y:TD} {all:Bool} (hc:cF x=0) (hy:cF y=0):itE x true y all=if ordB x y=false then 10 else if all=true/\exT x=false then 10 else 0:=by
 have h2:(true=true/\ordB x y=false)↔ordB x y=false:=by simp
 have h3:(true=false/\eqD y d0=false)↔False:=by simp
 unfold itE;rw [ab (λh=>h hc),ab (λh=>h.2 hy)];simp only [h3,aE,iY]
theorem PS (a b:Bool):(IntKind.wrap .i64 ((if a then (1:Int) else 0)*(if b then (1:Int) else 0))==0)=!(a&&b):=by cases a<;>cases b<;>rfl
theorem wC {x y:TD} (r all:Bool) (hx:smT x) (hy:smT y):fE 20000000 x r y all=some (itE x r y all):=by
 have last:cond all (ob (ap10 (aY 20000000) x) λv11=>(cond (v11==0) (some 10) (some 0))) (some 0)=some (if all=true/\exT x=false then (10:Int) else 0):=by
  rw [reT hx]
  cases all
  ·rfl
  ·cases exT x<;>rfl
 unfold fE
 simp only [last]
 simp only [rcT hx,rcT hy,qL hx,qL hy,rcoT,ob,PS]
 by_cases hc:cF x=0
 ·rw [show (cF x != 0)=false from by simp [hc],af]
  cases r
  ·simp only [af,jB,aj]
   rw [IT hc]
   generalize eqD y d0=z
   cases z<;>rfl
  ·simp only [aj,dX,af]
   by_cases hcy:cF y=0
   ·rw [show (cF y != 0)=false from by simp [hcy],af]
    rw [N7 hc hcy]
    unfold ordB
    cases px:plT x
    ·simp
    cases py:plT y
    ·simp
    obtain ⟨c1,e1,s1⟩:=jA.1 px
    obtain ⟨c2,e2,s2⟩:=jA.1 py
    rw [rdT hx c1 e1,rdT hy c2 e2]
    simp only [u2,Bool.and_self,dX,af,lW,iY]
    by_cases hcc:coT x=coT y
    ·rw [hcc,ar rfl]
     simp only [fh,af,lW]
     by_cases hd:(dyT x).1<=(dyT y).1
     ·rw [show decide ((dyT x).1>(dyT y).1)=false from aq (by omega),ar hd]
      simp
     ·rw [show decide ((dyT x).1>(dyT y).1)=true from ar (by omega),aq hd]
      simp
    ·have:(((coT x:Nat):Int) != ((coT y:Nat):Int))=true:=by simp;omega
     rw [this,aq hcc]
     simp
   ·rw [show (cF y != 0)=true from by simp [hcy],aj]
    rw [MZ hc hcy]
 ·rw [show (cF x != 0)=true from by simp [hc],aj]
  rw [QM hc]
def ra {A:Type} (f:Nat->A->Int):Nat->List A->Option (Nat×Int)
 | _,[]=>none
 | i,t::r=>if f i t≠0 then some (i,f i t) else ra f (i+1) r
theorem wX {A X Y:Type} {step:X->Option (X⊕Y)} {st:Nat->X} {L:List A} {f:Nat->A->Int} {yes:Nat->Int->Y} {no:Y}
  (h1:∀i t,L[i]?=some t->step (st i)=some (if f i t≠0 then .inr (yes i (f i t)) else .inl (st (i+1)))) (h2:step (st L.length)=some (.inr no)):
  ∀(r i:Nat),i+r=L.length->∀N,r<N->aw step N (st i)=some (match ra f i (L.drop i) with | some p=>yes p.1 p.2 | none=>no):=by
 intro r
 induction r with
 | zero=>
  intro i hi N hN
  obtain ⟨N,rfl⟩:∃k,N=k+1:=⟨N - 1,by omega⟩
  rw [aw,show i=L.length by omega,h2,Iu]
  rfl
 | succ r ih=>
  intro i hi N hN
  obtain ⟨N,rfl⟩:∃k,N=k+1:=⟨N - 1,by omega⟩
  have hil:i<L.length:=by omega
  have he:L[i]?=some L[i]:=bD hil
  rw [aw,h1 i _ he,xh hil,ra]
  by_cases hf:f i L[i]≠0
  ·rw [ad hf,ad hf]
  ·rw [ab hf,ab hf]
   exact ih (i+1) (by omega) N (by omega)
abbrev rT (t:TI):Bool:=(d8 t).2.2.1
abbrev iT (t:TI):TD:=(d8 t).2.2.2
def smI (t:TI):Prop:=smT (iF t)/\smT (iT t)
noncomputable def itI (t:TI) (all:Bool):Int:=itE (iF t) (rT t) (iT t) all
noncomputable def endB (t:TI):Bool:=!rT t&&plT (iF t)
noncomputable def errI (K:Int) (e l:Bool) (n i:Nat) (t:TI):Int:=
 if itI t (K==4)≠0 then itI t (K==4) else if (e&&decide (i=0))&&!endB t||((l&&decide (i+1=n))&&!endB t||(e&&(l&&decide (n=1)))) then 10 else 0
noncomputable def wy (K:Int) (e l:Bool) (L:List TI):Int×Int:=match ra (errI K e l L.length) 0 L with
 | some p=>((p.1:Int),p.2)
 | none=>(0,0)
theorem qt {i:Nat} (h:i<9223372036854775807):w64 ((i:Int)+1)=((i+1:Nat):Int):=by
 show IntKind.wrap .i64 _=_
 rw [wrap_i64 _ (by omega) (by omega)];omega
theorem AY {i:Nat} (h0:0<i) (h:i<9223372036854775807):w64 ((i:Int) - 1)=((i - 1:Nat):Int):=by
 show IntKind.wrap .i64 _=_
 rw [wrap_i64 _ (by omega) (by omega)];omega
theorem natB (a b:Nat):(((a:Nat):Int)==((b:Nat):Int))=decide (a=b):=by
 by_cases h:a=b
 ·subst h;simp
 ·rw [aq h];simp;omega
theorem Bh (a:Nat):(((a:Nat):Int)==0)=decide (a=0):=natB a 0
theorem QA {x y:TD} (r:Bool) (hx:smT x):me 20000000 x r y=some (!r&&plT x):=by
 unfold me
 rw [xZ hx]
 cases r<;>rfl
theorem GR {K:Int} (hK:K=3\/K=4) {e l:Bool} {L:List TI} {i:Nat} {t:TI} (hi:L[i]?=some t) (hs:smI t) (hn:L.length<=1000000) (D:TD) (KF:Int) (DF:TD) (KT:Int) (DT:TD):
  iC 20000000 (itI t (K==4)) 10 10 10 (iF t) (rT t) (iT t) K D KF DF KT DT e l (i:Int) (w64 (len L - 1)) L=some (errI K e l L.length i t):=by
 have hil:i<L.length:=(ol.1 hi).1
 have hlast:w64 (len L - 1)=((L.length - 1:Nat):Int):=AY (by omega) (by omega)
 have hIt:fL 20000000 (iF t) (rT t) (iT t) K=some (itI t (K==4)):=by
  rw [B6 _ hs.1 hs.2,ad hK];rfl
 unfold iC nl nh nP nZ errI
 rw [hIt,hlast]
 simp only [QA (rT t) hs.1,ob,Bh,natB]
 have e1:decide (i=L.length - 1)=decide (i+1=L.length):=by congr 1;exact propext (by omega)
 have e2:decide (L.length - 1=0)=decide (L.length=1):=by congr 1;exact propext (by omega)
 rw [e1,e2]
 show cond (itI t (K==4) != 0) _ _=_
 by_cases h0:itI t (K==4)=0
 ·rw [ab (λh=>h h0),show (itI t (K==4) != 0)=false from by simp [h0],af]
  show _=some (if ((e&&decide (i=0))&&!endB t||((l&&decide (i+1=L.length))&&!endB t||(e&&(l&&decide (L.length=1)))))=true then 10 else 0)
  unfold endB
  generalize (!rT t&&plT (iF t))=z
  generalize decide (i=0)=a
  generalize decide (i+1=L.length)=b
  generalize decide (L.length=1)=c
  cases e<;>cases l<;>cases z<;>cases a<;>cases b<;>cases c<;>rfl
 ·rw [ad h0,show (itI t (K==4) != 0)=true from by simp [h0],aj]
theorem Ks {K:Int} (hK:K=3\/K=4) {e l:Bool} {L:List TI} (hs:∀t∈L,smI t) (hn:L.length<=1000000) (D:TD) (KF:Int) (DF:TD) (KT:Int) (DT:TD):
  nB 20000000 K D KF DF KT DT e l L=some (wy K e l L):=by
 have:=wX (step:=gA 20000000) (st:=λi=>(len L,(i:Int),L,K,D,KF,DF,KT,DT,e,l,w64 (len L - 1))) (L:=L) (f:=errI K e l L.length) (yes:=λi q=>.inl ((i:Int),q)) (no:=.inr ())
  (λi t hi=>by
   have hil:i<L.length:=(ol.1 hi).1
   have hst:=hs t (eT hi)
   have hIt:fL 20000000 (iF t) (rT t) (iT t) K=some (itI t (K==4)):=by
    rw [B6 _ hst.1 hst.2,ad hK];rfl
   unfold gA
   simp only [u12,u11,u10,u9,u8,u7,u6,u5,u4,u3,u2]
   rw [ar (show (i:Int)<len L by unfold len;omega),cY hil]
   simp only [aj,ob,hi]
   rw [show fL 20000000 (iF t) (d8 t).2.2.1 (d8 t).2.2.2 K=some (itI t (K==4)) from hIt]
   simp only
   rw [show iC 20000000 (itI t (K==4)) 10 10 10 (iF t) (d8 t).2.2.1 (d8 t).2.2.2 K D KF DF KT DT e l (i:Int) (w64 (len L - 1)) L=some (errI K e l L.length i t) from GR hK hi hst hn D KF DF KT DT]
   simp only
   rw [qt (by omega)]
   by_cases h0:errI K e l L.length i t=0
   ·rw [ab (λh=>h h0),show (errI K e l L.length i t != 0)=false from by simp [h0]];rfl
   ·rw [ad h0,show (errI K e l L.length i t != 0)=true from by simp [h0]];rfl)
  (by
   unfold gA
   simp only [u12,u11,u10,u9,u8,u7,u6,u5,u4,u3,u2]
   rw [aq (show ¬((L.length:Nat):Int)<len L by unfold len;omega)]
   rfl)
  L.length 0 (by omega) 20000000 (by omega)
 unfold nB wy
 rw [gk] at this
 show obs (aw (gA 20000000) 20000000 (len L,((0:Nat):Int),L,K,D,KF,DF,KT,DT,e,l,w64 (len L - 1))) _ _=_
 rw [this]
 cases ra (errI K e l L.length) 0 L<;>rfl
noncomputable def uT (K:Int) (x:TD):Int:=chkB K x.1 x.2.1 x.2.2.1 x.2.2.2.1 x.2.2.2.2.1 x.2.2.2.2.2.1 x.2.2.2.2.2.2.1 x.2.2.2.2.2.2.2.1 x.2.2.2.2.2.2.2.2.1 x.2.2.2.2.2.2.2.2.2
noncomputable def tq (K:Int) (x:TD) (K':Int) (y:TD):Int:=fS9 (uT K x) (uT K' y) K K' (dyT x).1 (dyT y).2
theorem Nz {x y:TD} (hx:smT x) (hy:smT y) (K K':Int):ap10 (ap10 (jZ 20000000 K) x K') y=some (tq K x K' y):=
 Ol hx.1 hx.2.1 hx.2.2.1 hx.2.2.2.1 hx.2.2.2.2.1 hx.2.2.2.2.2 hy.1 hy.2.1 hy.2.2.1 hy.2.2.2.1 hy.2.2.2.2.1 hy.2.2.2.2.2
theorem A7 {x y:TD} (hx:smT x) (hy:smT y) (K K':Int):ap10 (ap10 (eh 20000000 K) x K') y=some (tq K x K' y):=
 Ky hx.1 hx.2.1 hx.2.2.1 hx.2.2.2.1 hx.2.2.2.2.1 hx.2.2.2.2.2 hy.1 hy.2.1 hy.2.2.1 hy.2.2.2.1 hy.2.2.2.2.1 hy.2.2.2.2.2
def unuB (K:Int) (D:TD) (KF:Int) (DF:TD) (KT:Int) (DT:TD) (e l:Bool) (n:Nat):Bool:=
 !(K==1||eqD D d0)||(!(K==2||((KF==0)&&((eqD DF d0)&&true))&&((KT==0)&&((eqD DT d0)&&true)))||!(K==3||(K==4||(decide (n=0)&&(!e&&!l)))))
theorem Hg (n:Nat) (K:Int) (D:TD) (KF:Int) (DF:TD) (KT:Int) (DT:TD) (e l:Bool) (L:List TI):
  mm n K D KF DF KT DT e l L=some (unuB K D KF DF KT DT e l L.length):=by
 unfold mm unuB
 rw [show (len L==0)=decide (L.length=0) from Bh _]
 generalize eqD D d0=z0
 generalize ((KF==0)&&((eqD DF d0)&&true))=z1
 generalize ((KT==0)&&((eqD DT d0)&&true))=z2
 generalize decide (L.length=0)=z3
 generalize (K==1)=k1
 generalize (K==2)=k2
 generalize (K==3)=k3
 generalize (K==4)=k4
 revert z0 z1 z2 z3 k1 k2 k3 k4 e l
 decide +kernel
noncomputable def jg (K:Int) (D:TD) (KF:Int) (DF:TD) (KT:Int) (DT:TD) (e l:Bool) (L:List TI):Int×Int:=
 if K<1\/4<K then (0,18) else if unuB K D KF DF KT DT e l L.length=true then (0,5) else if K=1 then (0,cF D) else if K=2 then (0,tq KF DF KT DT) else if L.length=0 then (0,17) else if 256<L.length then (0,3) else wy K e l L
def smE (D DF DT:TD) (L:List TI):Prop:=smT D/\smT DF/\smT DT/\∀t∈L,smI t
theorem K5 {K:Int} {D:TD} {KF:Int} {DF:TD} {KT:Int} {DT:TD} {e l:Bool} {L:List TI} (h:smE D DF DT L):
  n6 20000000 K D KF DF KT DT e l L=some (jg K D KF DF KT DT e l L):=by
 obtain ⟨hD,hF,hT,hL⟩:=h
 unfold n6 jg
 by_cases h1:K<1
 ·rw [ar h1,ad (.inl h1)];rfl
 by_cases h4:4<K
 ·rw [aq h1,show decide (K>4)=true from ar h4,ad (.inr h4)];rfl
 rw [aq h1,show decide (K>4)=false from aq h4,ab (by omega),Hg]
 simp only [af,ob]
 cases unuB K D KF DF KT DT e l L.length
 ·simp only [af,ca,aE]
  by_cases k1:K=1
  ·rw [ad k1,show (K==1)=true from by simp [k1],fcT hD];rfl
  by_cases k2:K=2
  ·rw [ab k1,ad k2,show (K==1)=false from by simp [k1],show (K==2)=true from by simp [k2],Nz hF hT];rfl
  rw [ab k1,ab k2,show (K==1)=false from by simp [k1],show (K==2)=false from by simp [k2]]
  simp only [af]
  rw [show (len L==0)=decide (L.length=0) from Bh _]
  by_cases l0:L.length=0
  ·rw [ar l0,ad l0];rfl
  rw [aq l0,ab l0]
  by_cases l1:256<L.length
  ·rw [show decide (len L>256)=true from ar (by show (256:Int)<((L.length:Nat):Int);omega),ad l1];rfl
  rw [show decide (len L>256)=false from aq (by show ¬(256:Int)<((L.length:Nat):Int);omega),ab l1,Ks (by omega) hL (by omega)]
  rfl
 ·rfl
theorem Np (n:Nat) (i:Int) (L:List TI) (K:Int) (D:TD) (KF:Int) (DF:TD) (KT:Int) (DT:TD) (e l:Bool) (x:TD) (r:Bool) (y:TD):
  ft n i L K D KF DF KT DT e l x r y=some (i,e&&(i==0),l&&(i==w64 (len L - 1)),L,K,D,KF,DF,KT,DT,e,l,x,r,y):=by
 unfold ft
 cases e<;>cases l<;>rfl
theorem OQ (i:Int) (a b:Bool) (L:List TI) (K:Int) (D:TD) (KF:Int) (DF:TD) (KT:Int) (DT:TD) (e l:Bool) (x:TD) (r:Bool) (y:TD) (hx:smT x):
  fk 20000000 i a b L K D KF DF KT DT e l x r y=some (i,(a&&b)||((a||b)&&(r||!plT x)),L,K,D,KF,DF,KT,DT,e,l):=by
 unfold fk
 rw [qL hx]
 cases a<;>cases b<;>cases r<;>cases plT x<;>rfl
theorem IJ {K:Int} (hK:K=3\/K=4) {e l:Bool} {L:List TI} (hs:∀t∈L,smI t) (hn:L.length<=1000000) (D:TD) (KF:Int) (DF:TD) (KT:Int) (DT:TD):
  aw (dm 20000000) 20000000 (0,L,K,D,KF,DF,KT,DT,e,l)=some (match ra (errI K e l L.length) 0 L with | some p=>.inl ((p.1:Int),p.2) | none=>.inr ()):=by
 have:=wX (step:=dm 20000000) (st:=λi=>((i:Int),L,K,D,KF,DF,KT,DT,e,l)) (L:=L) (f:=errI K e l L.length) (yes:=λi q=>.inl ((i:Int),q)) (no:=.inr ())
  (λi t hi=>by
   have hil:i<L.length:=(ol.1 hi).1
   have hst:=hs t (eT hi)
   have hIt:fE 20000000 (iF t) (d8 t).2.2.1 (d8 t).2.2.2 (K==4)=some (itI t (K==4)):=wC _ _ hst.1 hst.2
   have hlast:w64 (len L - 1)=((L.length - 1:Nat):Int):=AY (by omega) (by omega)
   unfold dm
   simp only [u15,u14,u13,u12,u11,u10,u9,u8,u7,u6,u5,u4,u3,u2]
   rw [ar (show (i:Int)<len L by unfold len;omega),cY hil]
   simp only [aj,ob,hi,hIt]
   by_cases h0:itI t (K==4)=0
   ·rw [show (itI t (K==4) != 0)=false from by simp [h0],af]
    simp only [Np,hlast,Bh,natB,u15,u14,u13,u12,u11,u10,u9,u8,u7,u6,u5,u4,u3,u2]
    rw [OQ _ _ _ _ _ _ _ _ _ _ _ _ _ _ _ hst.1]
    simp only [u11,u10,u9,u8,u7,u6,u5,u4,u3,u2]
    have e1:decide (i=L.length - 1)=decide (i+1=L.length):=by congr 1;exact propext (by omega)
    have e3:(decide (i=0)&&decide (i+1=L.length))=(decide (L.length=1)&&decide (i=0)):=by
     by_cases hi0:i=0
     ·subst hi0
      rw [ar rfl,lW,wU]
      congr 1;exact propext (by omega)
     ·rw [aq hi0,Ee];rfl
    have e4:decide (L.length=1)=true->decide (i=0)=true:=λh=>ar (by have:=xR h;omega)
    have hE:errI K e l L.length i t=if ((e&&decide (i=0))&&(l&&decide (i+1=L.length)))||(((e&&decide (i=0))||(l&&decide (i+1=L.length)))&&(rT t||!plT (iF t))) then 10 else 0:=by
     unfold errI endB
     rw [h0,ab (λh=>h rfl)]
     congr 1
     revert e3 e4
     generalize rT t=r
     generalize plT (iF t)=z
     generalize decide (i=0)=a
     generalize decide (i+1=L.length)=b
     generalize decide (L.length=1)=c
     cases e<;>cases l<;>cases z<;>cases r<;>cases a<;>cases b<;>cases c<;>simp
    rw [e1,qt (by omega),hE]
    generalize (((e&&decide (i=0))&&(l&&decide (i+1=L.length)))||(((e&&decide (i=0))||(l&&decide (i+1=L.length)))&&(rT t||!plT (iF t))))=z
    cases z<;>rfl
   ·have:errI K e l L.length i t=itI t (K==4):=ad h0
    rw [show (itI t (K==4) != 0)=true from by simp [h0],aj,this,ad h0])
  (by
   unfold dm
   simp only [u15,u14,u13,u12,u11,u10,u9,u8,u7,u6,u5,u4,u3,u2]
   rw [aq (show ¬((L.length:Nat):Int)<len L by unfold len;omega)]
   rfl)
  L.length 0 (by omega) 20000000 (by omega)
 rw [gk] at this
 exact this
theorem Ce {K:Int} {D:TD} {KF:Int} {DF:TD} {KT:Int} {DT:TD} {e l:Bool} {L:List TI} (h:smE D DF DT L):
  iM 20000000 K D KF DF KT DT e l L=some (jg K D KF DF KT DT e l L):=by
 obtain ⟨hD,hF,hT,hL⟩:=h
 have j3:fP 20000000 L K D KF DF KT DT e l=some (K==3||K==4,L,K,D,KF,DF,KT,DT,e,l):=by
  unfold fP
  cases (K==3)<;>rfl
 have j4:fX 20000000 (K==3||K==4) L K D KF DF KT DT e l=some (K==3||K==4,!(K==1)&&(!(K==2)&&!(K==3||K==4)),L,K,D,KF,DF,KT,DT,e,l):=by
  unfold fX
  rw [show (K != 1)=!(K==1) from rfl,show (K != 2)=!(K==2) from rfl]
  cases (K==1)<;>cases (K==2)<;>rfl
 have j7:fO 20000000 (K==3||K==4) L K D KF DF KT DT e l=some (unuB K D KF DF KT DT e l L.length,L,K,D,KF,DF,KT,DT,e,l):=by
  unfold fO unuB
  have hpos:decide (len L>0)=!decide (L.length=0):=by
   by_cases hl:L.length=0
   ·rw [ar hl,aq (by unfold len;omega)];rfl
   ·rw [aq hl,ar (by unfold len;omega)];rfl
  rw [show (K != 1)=!(K==1) from rfl,show (K != 2)=!(K==2) from rfl,hpos]
  generalize eqD D d0=z0
  generalize ((KF==0)&&((eqD DF d0)&&true))=z1
  generalize ((KT==0)&&((eqD DT d0)&&true))=z2
  generalize decide (L.length=0)=z3
  generalize (K==1)=k1
  generalize (K==2)=k2
  generalize (K==3)=k3
  generalize (K==4)=k4
  cases z0<;>cases z1<;>cases z2<;>cases z3<;>cases k1<;>cases k2<;>cases k3<;>cases k4<;>cases e<;>cases l<;>rfl
 unfold iM jg
 rw [j3]
 simp only [ob,u11,u10,u9,u8,u7,u6,u5,u4,u3,u2,j4]
 by_cases hk:K<1\/4<K
 ·rw [ad hk,show (K==1)=false from by simp;omega,show (K==2)=false from by simp;omega,show (K==3)=false from by simp;omega,show (K==4)=false from by simp;omega]
  rfl
 have hc4:(!(K==1)&&(!(K==2)&&!(K==3||K==4)))=false:=by
  rcases (by omega:K=1\/K=2\/K=3\/K=4) with rfl | rfl | rfl | rfl<;>rfl
 rw [ab hk,hc4]
 simp only [af,j7]
 cases unuB K D KF DF KT DT e l L.length
 ·simp only [af,ca,aE]
  by_cases k1:K=1
  ·rw [ad k1,show (K==1)=true from by simp [k1],rcT hD];rfl
  by_cases k2:K=2
  ·rw [ab k1,ad k2,show (K==1)=false from by simp [k1],show (K==2)=true from by simp [k2],A7 hF hT];rfl
  rw [ab k1,ab k2,show (K==1)=false from by simp [k1],show (K==2)=false from by simp [k2]]
  simp only [af]
  rw [show (len L==0)=decide (L.length=0) from Bh _]
  by_cases l0:L.length=0
  ·rw [ar l0,ad l0];rfl
  rw [aq l0,ab l0]
  by_cases l1:256<L.length
  ·rw [show decide (len L>256)=true from ar (by show (256:Int)<((L.length:Nat):Int);omega),ad l1];rfl
  rw [show decide (len L>256)=false from aq (by show ¬(256:Int)<((L.length:Nat):Int);omega),ab l1,af,af,IJ (by omega) hL (by omega)]
  unfold wy
  cases ra (errI K e l L.length) 0 L<;>rfl
 ·rfl
theorem JA {K:Int} {D:TD} {KF:Int} {DF:TD} {KT:Int} {DT:TD} {e l:Bool} {L:List TI} (h:smE D DF DT L):
  jW 20000000 K D KF DF KT DT e l L=some (jg K D KF DF KT DT e l L).2:=by
 unfold jW;rw [K5 h];rfl
theorem BC {K:Int} {D:TD} {KF:Int} {DF:TD} {KT:Int} {DT:TD} {e l:Bool} {L:List TI} (h:smE D DF DT L):
  iP 20000000 K D KF DF KT DT e l L=some (jg K D KF DF KT DT e l L).2:=by
 unfold iP;rw [Ce h];rfl
abbrev TR:=ae
def natI (x:Int) (b:Nat):Prop:=0<=x/\x<(b:Int)
def wfD (a0 a2 a3 a4 a5 a6 a7 a8 a9:Int):Prop:=natI a0 256/\natI a2 65536/\natI a3 256/\natI a4 256/\natI a5 256/\natI a6 256/\natI a7 256/\natI a8 256/\natI a9 256
theorem natI.nat {x:Int} {b:Nat} (h:natI x b):∃n:Nat,x=(n:Int)/\n<b:=⟨x.toNat,by have:=h.1;omega,by have:=h.1;have:=h.2;omega⟩
theorem DofI {a0 a2 a3 a4 a5 a6 a7 a8 a9:Int} (g:Bool) (h:wfD a0 a2 a3 a4 a5 a6 a7 a8 a9):∃x:TD,aC 20000000 a0 g a2 a3 a4 a5 a6 a7 a8 a9=some x/\smT x/\cF x=0:=by
 obtain ⟨h0,h2,h3,h4,h5,h6,h7,h8,h9⟩:=h
 obtain ⟨a0,rfl,b0⟩:=h0.nat
 obtain ⟨a2,rfl,b2⟩:=h2.nat
 obtain ⟨a3,rfl,b3⟩:=h3.nat
 obtain ⟨a4,rfl,b4⟩:=h4.nat
 obtain ⟨a5,rfl,b5⟩:=h5.nat
 obtain ⟨a6,rfl,b6⟩:=h6.nat
 obtain ⟨a7,rfl,b7⟩:=h7.nat
 obtain ⟨a8,rfl,b8⟩:=h8.nat
 obtain ⟨a9,rfl,b9⟩:=h9.nat
 obtain ⟨g',l,dg,x,q,mo,d,k0,k1,k2,e,hc,hok,hf⟩:=QK 19999700 a0 a2 a3 a4 a5 a6 a7 a8 a9 g b2 b3 b4 b5 b6 b7 b8 b9
 obtain ⟨hY,hm2,hd2,_⟩:=mP hc
 obtain ⟨_,_,_,_,_,hdl⟩:=iL hY
 refine ⟨_,e,⟨?_,by show dg.length<=100;omega,?_,by simp,by simp,by simp⟩,Dc hc hf⟩
 ·rcases hm2 with h | h
  ·rw [h];simp
  ·show mo.length<=18;omega
 ·rcases hd2 with h | h
  ·rw [h];simp
  ·show d.length<=18;omega
theorem Jz:((List.range 13).all λj=>sea (monT j)==0)=true:=by decide +kernel
theorem SZ (a0 a2 a3 a4 a5 a6 a7 a8 a9:Nat) (g:Bool) (h2:a2<65536) (h3:a3<256) (h4:a4<256) (h5:a5<256) (h6:a6<256) (hm:a5%40<=12):
  ∃r:TD,aC 20000000 (a0:Int) g (a2:Int) (a3:Int) (a4:Int) (a5:Int) (a6:Int) (a7:Int) (a8:Int) (a9:Int)=some r/\seT r=0:=by
 obtain ⟨g',l,dg,x,q,mo,d,e,_,_,_,_,hq1,hq0,_⟩:=GK 19999700 a0 a2 a3 a4 a5 a6 a7 a8 a9 g h2 h3 h4 h5 h6
 refine ⟨_,e,?_⟩
 show sea mo=0
 by_cases hq:q=0
 ·rw [hq0 hq]
  have:=(cn.1 Jz) (a5%40) (iW.2 (by omega))
  simpa using this
 ·rw [(hq1 hq).1];decide
theorem ExI {a0 a2 a3 a4 a5 a6 a7 a8 a9:Int} (g:Bool) (h:wfD a0 a2 a3 a4 a5 a6 a7 a8 a9):
  ∃x:TD,bi 20000000 a0 g a2 a3 a4 a5 a6 a7 a8 a9=some x/\smT x/\cF x=0/\exT x=true/\(Int.tmod a5 40<=12->seT x=0):=by
 obtain ⟨h0,h2,h3,h4,h5,h6,h7,h8,h9⟩:=h
 obtain ⟨a0,rfl,b0⟩:=h0.nat
 obtain ⟨a2,rfl,b2⟩:=h2.nat
 obtain ⟨a3,rfl,b3⟩:=h3.nat
 obtain ⟨a4,rfl,b4⟩:=h4.nat
 obtain ⟨a5,rfl,b5⟩:=h5.nat
 obtain ⟨a6,rfl,b6⟩:=h6.nat
 obtain ⟨a7,rfl,b7⟩:=h7.nat
 obtain ⟨a8,rfl,b8⟩:=h8.nat
 obtain ⟨a9,rfl,b9⟩:=h9.nat
 obtain ⟨g',l,dg,x,mo,d,k0,k1,k2,e,hc,he,hml,hd18,hdl⟩:=D5 19999700 a0 a2 a3 a4 a5 a6 a7 a8 a9 g b0 b2 b3 b4 b5 b6
 refine ⟨_,e,⟨hml,hdl,hd18,by simp,by simp,by simp⟩,hc,he,λhm=>?_⟩
 have t5:Int.tmod (a5:Int) 40=((a5%40:Nat):Int):=rfl
 rw [t5] at hm
 have t6:Int.tmod (a6:Int) 40=((a6%40:Nat):Int):=rfl
 have td:Int.tdiv ((a6%40:Nat):Int) 2=((a6%40 / 2:Nat):Int):=rfl
 have w6:IntKind.wrap .u8 ((a6%40 / 2:Nat):Int)=((a6%40 / 2:Nat):Int):=eZ _ (by omega) (by omega)
 have S:=λ(c0 c6:Nat) (h6:c6<256)=>SZ c0 a2 a3 a4 a5 c6 a7 a8 a9 g b2 b3 b4 b5 h6 (by omega)
 have e':bi 20000000 (a0:Int) g (a2:Int) (a3:Int) (a4:Int) (a5:Int) (a6:Int) (a7:Int) (a8:Int) (a9:Int)=some (g',l,dg,x,0,mo,d,((k0:Nat):Int),((k1:Nat):Int),((k2:Nat):Int)):=e
 have key:∀(o:Option TD) (y:TD),(∃r:TD,o=some r/\seT r=0)->(ob o λr98=>(cond (decide ((d4 r98).1>0)) (some (r98.1,r98.2.1,r98.2.2.1,r98.2.2.2.1,(0:Int),(d4 r98).2.1,(d4 r98).2.2.1,(d4 r98).2.2.2.1,(d8 r98).1,(d8 r98).2)) (some (r98.1,r98.2.1,r98.2.2.1,r98.2.2.2.1,(d4 r98).1,(d4 r98).2.1,(d4 r98).2.2.1,(d4 r98).2.2.2.1,(d8 r98).1,(d8 r98).2))))=some y->seT y=0:=by
  rintro o y ⟨r,rfl,hr⟩ hy
  simp only [ob] at hy
  cases hd:decide ((d4 r).1>0)<;>rw [hd] at hy<;>simp only [aj,af,am] at hy<;>subst hy<;>exact hr
 unfold bi at e'
 rw [t5,t6,td,w6] at e'
 rw [aq (show ¬((a5%40:Nat):Int)>33 by omega)] at e'
 simp only [af] at e'
 have z0:(0:Int)=((0:Nat):Int):=rfl
 cases h3:(Int.tmod (a0:Int) 6==3)<;>rw [h3] at e'<;>simp only [aj,af] at e'
 ·cases h4:(Int.tmod (a0:Int) 6==4)<;>rw [h4] at e'<;>simp only [aj,af] at e'
  ·cases h6':decide (((a6%40:Nat):Int)>31)<;>rw [h6'] at e'<;>simp only [aj,af] at e'
   ·exact key _ _ (S a0 a6 (by omega)) e'
   ·exact key _ _ (S a0 (a6%40 / 2) (by omega)) e'
  ·cases h6':decide (((a6%40:Nat):Int)>31)<;>rw [h6'] at e'<;>simp only [aj,af] at e'
   ·exact key _ _ (S 0 a6 (by omega)) e'
   ·exact key _ _ (S 0 (a6%40 / 2) (by omega)) e'
 ·cases h6':decide (((a6%40:Nat):Int)>31)<;>rw [h6'] at e'<;>simp only [aj,af] at e'
  ·exact key _ _ (S 0 a6 (by omega)) e'
  ·exact key _ _ (S 0 (a6%40 / 2) (by omega)) e'
theorem C3 {a0 a2 a3 a4 a5 a6 a7 a8 a9:Int} (g:Bool) (h:wfD a0 a2 a3 a4 a5 a6 a7 a8 a9):∃x:TD,bI 20000000 a0 g a2 a3 a4 a5 a6 a7 a8 a9=some x/\smT x/\plT x=true:=by
 obtain ⟨a5',rfl,b5⟩:=h.2.2.2.2.1.nat
 have t5:Int.tmod (a5':Int) 40=((a5'%40:Nat):Int):=rfl
 have t12:Int.tmod ((a5'%40:Nat):Int) 12=((a5'%40%12:Nat):Int):=rfl
 unfold bI
 rw [t5,t12]
 by_cases hm:12<a5'%40
 ·rw [ar (show ((a5'%40:Nat):Int)>12 by omega),aj]
  have w:w8 (((a5'%40%12:Nat):Int)+1)=((a5'%40%12+1:Nat):Int):=by
   show IntKind.wrap .u8 _=_
   rw [eZ _ (by omega) (by omega)];omega
  rw [w]
  have hw:wfD a0 a2 a3 a4 ((a5'%40%12+1:Nat):Int) a6 a7 a8 a9:=⟨h.1,h.2.1,h.2.2.1,h.2.2.2.1,⟨by omega,by omega⟩,h.2.2.2.2.2⟩
  obtain ⟨x,e,hs,hc,he,hse⟩:=ExI g hw
  have hs0:seT x=0:=hse (by
   show (((a5'%40%12+1)%40:Nat):Int)<=12
   omega)
  exact ⟨x,by rw [e];rfl,hs,jA.2 ⟨hc,he,by omega⟩⟩
 ·rw [aq (show ¬((a5'%40:Nat):Int)>12 by omega),af]
  obtain ⟨x,e,hs,hc,he,hse⟩:=ExI g h
  have hs0:seT x=0:=hse (by rw [t5];omega)
  exact ⟨x,by rw [e];rfl,hs,jA.2 ⟨hc,he,by omega⟩⟩
theorem BofI {k a0 a2 a3 a4 a5 a6 a7 a8 a9:Int} (g:Bool) (hk:natI k 256) (h:wfD a0 a2 a3 a4 a5 a6 a7 a8 a9):
  ∃(K:Int) (x:TD),bJ 20000000 k a0 g a2 a3 a4 a5 a6 a7 a8 a9=some (K,x)/\smT x/\uT K x=0/\(K=1\/((K=2\/K=3)/\x=d0)):=by
 obtain ⟨h0,h2,h3,h4,h5,h6,h7,h8,h9⟩:=h
 obtain ⟨k,rfl,bk⟩:=hk.nat
 obtain ⟨a0,rfl,b0⟩:=h0.nat
 obtain ⟨a2,rfl,b2⟩:=h2.nat
 obtain ⟨a3,rfl,b3⟩:=h3.nat
 obtain ⟨a4,rfl,b4⟩:=h4.nat
 obtain ⟨a5,rfl,b5⟩:=h5.nat
 obtain ⟨a6,rfl,b6⟩:=h6.nat
 obtain ⟨a7,rfl,b7⟩:=h7.nat
 obtain ⟨a8,rfl,b8⟩:=h8.nat
 obtain ⟨a9,rfl,b9⟩:=h9.nat
 obtain ⟨K,g',l,dg,x,mo,d,k0,k1,k2,e,hc,hml,hd18,hdl,hK⟩:=B_of 19999700 k a0 a2 a3 a4 a5 a6 a7 a8 a9 g b0 b2 b3 b4 b5 b6
 refine ⟨K,_,e,⟨hml,hdl,hd18,by simp,by simp,by simp⟩,hc,hK.imp id λ⟨h1,e1,e2,e3,e4,e5,e6,e7,e8,e9⟩=>⟨h1,?_⟩⟩
 subst e1 e2 e3 e4 e5 e6 e7 e8 e9
 rfl
theorem Gg {g l:Bool} {dg:aa} {x:Int} {m d:aa} {k0 k1 k2:Int} (h:chkD g l dg x 0 m d k0 k1 k2=0) (hm:m≠[]) (hp:0<=k0/\0<=k1):chkD g l dg x 0 m [] k0 k1 0=0:=by
 obtain ⟨c1,c2,c3,c4⟩:=zA h
 unfold chkD
 have h2:bh m []=2:=by unfold bh;simp [hm]
 have ha:allM k0 k1 0 2=0:=by
  unfold allM at c4 ⊢
  by_cases hx:3<k0\/3<k1\/3<k2\/(bh m d<2/\k1≠0)\/(bh m d<3/\k2≠0)
  ·rw [ad hx] at c4;cases c4
  ·rw [ab (by omega)]
 rw [c1,h2,ha]
 have:(!(m==[])&&(!(decide (0<sea m))&&!(dE m 12)))=false:=by
  rcases c2 with h | h | h
  ·rw [h];rfl
  ·rw [ar h];simp
  ·rw [h];simp
 rw [this]
 rfl
theorem G7 {g l:Bool} {dg:aa} {x:Int} {m d:aa} {k0 k1 k2:Int} (h:chkD g l dg x 0 m d k0 k1 k2=0):chkD g l dg x 0 [] [] k0 0 0=0:=by
 obtain ⟨c1,c2,c3,c4⟩:=zA h
 have hy:yrD g l dg x 0 []=true:=by
  unfold yrD at c1 ⊢
  by_cases hok:okY g l dg x 0
  ·rw [ad hok]
   unfold yrB
   rfl
  ·rw [ab hok] at c1;cases c1
 have ha:allM k0 0 0 1=0:=by
  unfold allM at c4 ⊢
  by_cases hx:3<k0\/3<k1\/3<k2\/(bh m d<2/\k1≠0)\/(bh m d<3/\k2≠0)
  ·rw [ad hx] at c4;cases c4
  ·rw [ab (by omega)]
 unfold chkD
 rw [hy,show bh [] []=1 from rfl,ha]
 rfl
theorem wL {g l:Bool} {dg:aa} {x q:Int} {m:aa} {k0 k1 k2:Int} (h:chkD g l dg x q m [] k0 k1 k2=0):chkF g l dg x q m [] k0 k1 k2=0:=by
 unfold chkF
 rw [ab (λh=>h.2.1 rfl),h]
theorem CL (x:TD):1<=coT x/\coT x<=3:=mh _ _
theorem cutI {x:TD} (hs:smT x) (hp:plT x=true) {n:Nat} (h1:1<=n) (h2:n<=coT x):∃y:TD,ir 20000000 x (n:Int)=some y/\smT y/\plT y=true/\coT y=n:=by
 obtain ⟨hc,he,hse⟩:=jA.1 hp
 obtain ⟨hq,E⟩:=G8 hc he
 have hcd:=mZ hc
 obtain ⟨g,l,dg,e,q,m,d,k0,k1,k2⟩:=x
 obtain ⟨s1,s2,s3,s4,s5,s6⟩:=hs
 simp only at s1 s2 s3 s4 s5 s6 hcd hq E
 subst hq
 have hc3:=CL (g,l,dg,e,0,m,d,k0,k1,k2)
 have exD0:exD dg m d 0=true:=he
 obtain ⟨_,_,p3⟩:=qC hc
 have hco:coT (g,l,dg,e,0,m,d,k0,k1,k2)=bh m d:=rfl
 unfold ir
 by_cases n3:n<3
 ·rw [ar (show (n:Int)<3 by omega),aj]
  by_cases n2:n<2
  ·rw [ar (show (n:Int)<2 by omega),aj]
   have n1:n=1:=by omega
   subst n1
   have hcd1:=G7 hcd
   exact ⟨_,rfl,⟨by simp,s2,by simp,s4,by simp,by simp⟩,jA.2 ⟨wL hcd1,(Jn exD0).2,by show ¬0<sea [];decide⟩,rfl⟩
  ·rw [aq (show ¬(n:Int)<2 by omega),af]
   have n1:n=2:=by omega
   subst n1
   have hm:m≠[]:=by
    rintro rfl
    rw [hco] at h2
    unfold bh at h2
    by_cases hd:d=[]
    ·simp [hd] at h2
    ·exact absurd rfl (p3 hd).1
   have hcd1:=Gg hcd hm ⟨s4,s5⟩
   exact ⟨_,rfl,⟨s1,s2,by simp,s4,s5,by simp⟩,jA.2 ⟨wL hcd1,(Jn exD0).1,hse⟩,by show bh m []=2;unfold bh;simp [hm]⟩
 ·rw [aq (show ¬(n:Int)<3 by omega),af,aq (show ¬(n:Int)<2 by omega),af]
  exact ⟨_,rfl,⟨s1,s2,s3,s4,s5,s6⟩,hp,by omega⟩
theorem Ia {p:TD} {all:Bool} (hp:plT p=true):itE p false d0 all=0:=by
 obtain ⟨hc,he,_⟩:=jA.1 hp
 rw [IT hc,he]
 have:eqD d0 d0=true:=mC.2 rfl
 rw [this];simp
theorem AB {x y:TD} {all:Bool} (hx:plT x=true) (hy:plT y=true) (hc:coT x=coT y) (hd:(dyT x).1<=(dyT y).1):itE x true y all=0:=by
 obtain ⟨c1,e1,_⟩:=jA.1 hx
 obtain ⟨c2,e2,_⟩:=jA.1 hy
 rw [N7 c1 c2,e1]
 have:ordB x y=true:=by unfold ordB;rw [hx,hy,ar hc,ar hd];rfl
 rw [this];simp
theorem SO {a0 a2 a3 a4 a5 a6 a7 a8 a9:Int} (g:Bool) {b0 b2 b3 b4 b5 b6 b7 b8 b9:Int} (f:Bool) (R:Int) (all:Bool) (ha:wfD a0 a2 a3 a4 a5 a6 a7 a8 a9) (hb:wfD b0 b2 b3 b4 b5 b6 b7 b8 b9):
  ∃x r y,fG 20000000 a0 g a2 a3 a4 a5 a6 a7 a8 a9 R b0 f b2 b3 b4 b5 b6 b7 b8 b9 all=some (x,r,y)/\smT x/\smT y/\itE x r y all=0:=by
 unfold fG
 cases (Int.tmod R 2==1)
 ·rw [af]
  cases all
  ·obtain ⟨x,e,hs,hc⟩:=DofI g ha
   refine ⟨x,false,d0,by rw [af,e];rfl,hs,yC,?_⟩
   have:eqD d0 d0=true:=mC.2 rfl
   rw [IT hc,this];simp
  ·obtain ⟨x,e,hs,hc,he,_⟩:=ExI g ha
   refine ⟨x,false,d0,by rw [aj,e];rfl,hs,yC,?_⟩
   have:eqD d0 d0=true:=mC.2 rfl
   rw [IT hc,this,he];simp
 ·rw [aj]
  obtain ⟨x,ex,sx,px⟩:=C3 g ha
  obtain ⟨y,ey,sy,py⟩:=C3 f hb
  rw [ex,ey]
  simp only [ob,rcoT]
  have hn:(cond (decide (((coT y:Nat):Int)<((coT x:Nat):Int))) ((coT y:Nat):Int) ((coT x:Nat):Int))=((min (coT x) (coT y):Nat):Int):=by
   by_cases h:coT y<coT x
   ·rw [ar (by omega),aj];omega
   ·rw [aq (by omega),af];omega
  rw [hn]
  have c1:=CL x
  have c2:=CL y
  obtain ⟨u,eu,su,pu,nu⟩:=cutI sx px (n:=min (coT x) (coT y)) (by omega) (by omega)
  obtain ⟨v,ev,sv,pv,nv⟩:=cutI sy py (n:=min (coT x) (coT y)) (by omega) (by omega)
  obtain ⟨cu,xu,_⟩:=jA.1 pu
  obtain ⟨cv,xv,_⟩:=jA.1 pv
  rw [eu,ev]
  simp only [rdT su cu xu,rdT sv cv xv,u2]
  by_cases hd:(dyT u).1>(dyT v).1
  ·rw [ar hd]
   exact ⟨v,true,u,rfl,sv,su,AB pv pu (by omega) (by omega)⟩
  ·rw [aq hd]
   exact ⟨u,true,v,rfl,su,sv,AB pu pv (by omega) (by omega)⟩
def wfR (r:TR):Prop:=wfD r.1 r.2.2.1 r.2.2.2.1 (d4 r).1 (d4 r).2.1 (d4 r).2.2.1 (d4 r).2.2.2.1 (d8 r).1 (d8 r).2.1/\
 wfD (d8 r).2.2.2.1 (d4 (d8 r)).2.1 (d4 (d8 r)).2.2.1 (d4 (d8 r)).2.2.2.1 (d16 r).1 (d16 r).2.1 (d16 r).2.2.1 (d16 r).2.2.2.1 (d4 (d16 r))
theorem wx {A:Type} {f:Nat->A->Int}:∀{L:List A} {k:Nat},(∀i t,L[i]?=some t->f (k+i) t=0)->ra f k L=none
 | [],_,_=>rfl
 | t::r,k,h=>by
  have h0:=h 0 t rfl
  rw [eA] at h0
  rw [ra,ab (λh=>h h0)]
  exact wx λi u hu=>by rw [gN,nT 1 i];exact h (i+1) u hu
structure RightE (k:Int) (D:TD) (KF:Int) (DF:TD) (KT:Int) (DT:TD) (e l:Bool) (I:List TI):Prop where
 sm:smE D DF DT I
 first:jg k D KF DF KT DT e l I=(0,0)
 len:I.length<=5
 kind:1<=k/\k<=4
 its:∀t∈I,itI t (k==4)=0
theorem I5 {k:Int} (hk:k=3\/k=4) {e l:Bool} {I:List TI} (h1:1<=I.length) (h5:I.length<=5) (hs:∀t∈I,smI t/\itI t (k==4)=0) (he:e=true->∃t,I[0]?=some t/\endB t=true)
  (hl:l=true->∃t,I[I.length - 1]?=some t/\endB t=true) (hel:e=true->l=true->I.length≠1):RightE k d0 0 d0 0 d0 e l I:=by
 refine ⟨⟨yC,yC,yC,λt ht=>(hs t ht).1⟩,?_,h5,by omega,λt ht=>(hs t ht).2⟩
 have hu:unuB k d0 0 d0 0 d0 e l I.length=false:=by
  have hz:eqD d0 d0=true:=mC.2 rfl
  unfold unuB
  rw [hz]
  rcases hk with rfl | rfl<;>rfl
 unfold jg
 rw [ab (by omega),ab (by rw [hu];simp),ab (by omega),ab (by omega),ab (by omega),ab (by omega)]
 unfold wy
 rw [wx λi t ht=>?_]
 rw [cO]
 have hil:i<I.length:=(ol.1 ht).1
 unfold errI
 rw [(hs t (eT ht)).2,ab (λh=>h rfl),ab]
 intro h
 simp only [gj,ay,cg,jM] at h
 rcases h with ⟨⟨a,b⟩,c⟩ | ⟨⟨a,b⟩,c⟩ | ⟨a,b,c⟩
 ·obtain ⟨u,u1,u2⟩:=he a
  subst b
  rw [ht] at u1;cases u1
  rw [u2] at c;cases c
 ·obtain ⟨u,u1,u2⟩:=hl a
  rw [show I.length - 1=i by omega,ht] at u1;cases u1
  rw [u2] at c;cases c
 ·exact hel a b c
theorem wZ {p:TD} {all:Bool} (hs:smT p) (hp:plT p=true):smI (mkI p false d0)/\itI (mkI p false d0) all=0/\endB (mkI p false d0)=true:=
 ⟨⟨hs,yC⟩,Ia hp,by unfold endB;show (!false&&plT p)=true;rw [hp];rfl⟩
theorem MF (n x0:Nat) (x1:Int) (x2:Bool) (x3:Int) (x4:TD) (x5:Int) (x6:TD) (x7:Int) (x8:TD) (x9 x10:Bool) {L:List TR} (x12:Int) (x13:TD) (x14:Int) (x15:TD) (x16:Int) (x17:TD) (x18 x19:Bool) (x20 I:List TI)
  {r:TR} {p:TD} (h0:0<x0) (hr:L[0]?=some r) (hI:0<I.length) (hp:bI n r.1 r.2.1 r.2.2.1 r.2.2.2.1 (d4 r).1 (d4 r).2.1 (d4 r).2.2.1 (d4 r).2.2.2.1 (d8 r).1 (d8 r).2.1=some p):
  fY n x0 x1 x2 x3 x4 x5 x6 x7 x8 x9 x10 L x12 x13 x14 x15 x16 x17 x18 x19 x20 I=some (x0,x1,x3,x4,x5,x6,x7,x8,x9,x10,L,x12,x13,x14,x15,x16,x17,x18,x19,x20,if x2=true then I.set 0 (mkI p false d0) else I)/\
  fp n x0 x1 x2 L x3 x4 x5 x6 x7 x8 x9 x10 x12 x13 x14 x15 x16 x17 x18 x19 x20 I=some (x0,x1,L,x3,x4,x5,x6,x7,x8,x9,x10,x12,x13,x14,x15,x16,x17,x18,x19,x20,if x2=true then I.set 0 (mkI p false d0) else I):=by
 unfold fY fp
 cases x2
 ·exact ⟨rfl,rfl⟩
 ·have i0:ix x0 (0:Int)=some 0:=cY (i:=0) h0
  have i1:ix I.length (0:Int)=some 0:=cY (i:=0) hI
  simp only [aj,i0,i1,hr,hp,ob,bD hI,aT]
  constructor<;>trivial
theorem Me (n x0 m:Nat) (x2:Bool) (x3:Int) (x4:TD) (x5:Int) (x6:TD) (x7:Int) (x8:TD) (x9 x10:Bool) {L:List TR} (x12:Int) (x13:TD) (x14:Int) (x15:TD) (x16:Int) (x17:TD) (x18 x19:Bool) (x20 I:List TI)
  {r:TR} {p:TD} (h0:m<x0) (hr:L[m]?=some r) (hI:m<I.length) (hp:bI n r.1 r.2.1 r.2.2.1 r.2.2.2.1 (d4 r).1 (d4 r).2.1 (d4 r).2.2.1 (d4 r).2.2.2.1 (d8 r).1 (d8 r).2.1=some p):
  f6 n x0 (m:Int) x2 x3 x4 x5 x6 x7 x8 x9 x10 L x12 x13 x14 x15 x16 x17 x18 x19 x20 I=some ((m:Int),x3,x4,x5,x6,x7,x8,x9,x10,x12,x13,x14,x15,x16,x17,x18,x19,x20,if x2=true then I.set m (mkI p false d0) else I)/\
  fq n x0 (m:Int) x2 L x3 x4 x5 x6 x7 x8 x9 x10 x12 x13 x14 x15 x16 x17 x18 x19 x20 I=some ((m:Int),x3,x4,x5,x6,x7,x8,x9,x10,x12,x13,x14,x15,x16,x17,x18,x19,x20,if x2=true then I.set m (mkI p false d0) else I):=by
 unfold f6 fq
 cases x2
 ·exact ⟨rfl,rfl⟩
 ·simp only [aj,cY h0,cY hI,hr,hp,ob,bD hI,aT]
  constructor<;>trivial
theorem EX {L:List TR} (hL:∀r∈L,wfR r) {n:Nat} (hn:n<=L.length) (h5:n<=5) (k:Int) (e l:Bool) (x6:List TI):
  ∃I:List TI,I.length=n/\(∀t∈I,smI t/\itI t (k==4)=0)/\
   aw (ch 20000000) 20000000 (n,0,L,k,e,l,x6,([]:List TI))=some (n,0,d0,0,d0,0,d0,false,false,L,k,d0,0,d0,0,d0,e,l,x6,I)/\
   aw (bX 20000000) 20000000 (n,0,L,k,e,l,x6,([]:List TI))=some (n,L,0,d0,0,d0,0,d0,false,false,k,d0,0,d0,0,d0,e,l,x6,I):=by
 have hst:∀i (r:TR) (acc:List TI),i<n->L[i]?=some r->acc.length=i->∃b:TI,(smI b/\itI b (k==4)=0)/\
   ch 20000000 (n,(i:Int),L,k,e,l,x6,acc)=some (.inl (n,((i+1:Nat):Int),L,k,e,l,x6,acc++[b]))/\
   bX 20000000 (n,(i:Int),L,k,e,l,x6,acc)=some (.inl (n,((i+1:Nat):Int),L,k,e,l,x6,acc++[b])):=by
  intro i r acc hi hr ha
  obtain ⟨w1,w2⟩:=hL r (eT hr)
  obtain ⟨x,f,y,e1,sx,sy,e0⟩:=SO r.2.1 (d4 (d8 r)).1 (d8 r).2.2.1 (k==4) w1 w2
  refine ⟨mkI x f y,⟨⟨sx,sy⟩,e0⟩,?_,?_⟩
  ·unfold ch
   simp only [u8,u7,u6,u5,u4,u3,u2]
   rw [ar (show (i:Int)<((n:Nat):Int) by omega),cY hi]
   simp only [aj,ob,hr,e1]
   rw [qt (by omega),show Nat.ble (acc.length+1) dn=true from cN (by unfold dn;omega)]
   rfl
  ·unfold bX
   simp only [u8,u7,u6,u5,u4,u3,u2]
   rw [ar (show (i:Int)<((n:Nat):Int) by omega),cY hi]
   simp only [aj,ob,hr,e1]
   rw [qt (by omega),show Nat.ble (acc.length+1) dn=true from cN (by unfold dn;omega)]
   rfl
 have done1:∀acc:List TI,ch 20000000 (n,(n:Int),L,k,e,l,x6,acc)=some (.inr (n,0,d0,0,d0,0,d0,false,false,L,k,d0,0,d0,0,d0,e,l,x6,acc)):=λacc=>by
  unfold ch
  simp only [u8,u7,u6,u5,u4,u3,u2]
  rw [aq (show ¬((n:Nat):Int)<((n:Nat):Int) by omega)]
  rfl
 have done2:∀acc:List TI,bX 20000000 (n,(n:Int),L,k,e,l,x6,acc)=some (.inr (n,L,0,d0,0,d0,0,d0,false,false,k,d0,0,d0,0,d0,e,l,x6,acc)):=λacc=>by
  unfold bX
  simp only [u8,u7,u6,u5,u4,u3,u2]
  rw [aq (show ¬((n:Nat):Int)<((n:Nat):Int) by omega)]
  rfl
 have main:∀(r i:Nat) (acc:List TI),i+r=n->acc.length=i->(∀t∈acc,smI t/\itI t (k==4)=0)->∀N,r<N->∃I:List TI,I.length=n/\(∀t∈I,smI t/\itI t (k==4)=0)/\
   aw (ch 20000000) N (n,(i:Int),L,k,e,l,x6,acc)=some (n,0,d0,0,d0,0,d0,false,false,L,k,d0,0,d0,0,d0,e,l,x6,I)/\
   aw (bX 20000000) N (n,(i:Int),L,k,e,l,x6,acc)=some (n,L,0,d0,0,d0,0,d0,false,false,k,d0,0,d0,0,d0,e,l,x6,I):=by
  intro r
  induction r with
  | zero=>
   intro i acc hi ha hq N hN
   obtain ⟨N,rfl⟩:∃k,N=k+1:=⟨N - 1,by omega⟩
   obtain rfl:i=n:=by omega
   exact ⟨acc,ha,hq,by rw [aw,done1],by rw [aw,done2]⟩
  | succ r ih=>
   intro i acc hi ha hq N hN
   obtain ⟨N,rfl⟩:∃k,N=k+1:=⟨N - 1,by omega⟩
   obtain ⟨b,hb,s1,s2⟩:=hst i _ acc (by omega) (bD (show i<L.length by omega)) ha
   obtain ⟨I,o1,o2,o3,o4⟩:=ih (i+1) (acc++[b]) (by omega) (by simp [ha]) (λx hx=>by
    rcases jY.1 hx with h | h
    ·exact hq x h
    ·rw [u0.1 h];exact hb) N (by omega)
   exact ⟨I,o1,o2,by rw [aw,s1];exact o3,by rw [aw,s2];exact o4⟩
 exact main n 0 [] (by omega) rfl (λt ht=>by cases ht) 20000000 (by omega)
theorem O2 (n x0:Nat) (x1:Int) (x2:Bool) (P:List TR) (x4 x5 x6 x7:Int) (L:List TR) (x9:List TI):
  gI n x0 x1 x2 P x4 x5 x6 x7 L x9=some (x0,x1,x2||(x1==1||x1==2),P,x4,x5,x6,x7,L,x9)/\
  fU n x0 x1 x2 P x4 x5 x6 x7 x9=some (x0,x1,x2||(x1==1||x1==2),P,x4,x5,x6,x7,x9):=by
 unfold gI fU iZ io
 cases x2<;>cases (x1==1)<;>exact ⟨rfl,rfl⟩
theorem LW (n x0:Nat) (x1:Int) (x2:Bool) (P:List TR) (x4 x5 x6 x7:Int) (L:List TR) (x9:List TI):
  ga n x0 x1 x2 P x4 x5 x6 x7 L x9=some (x0,x2||x1==4,P,x4,x5,x6,x7,L,x9)/\
  fB n x0 x1 x2 P x4 x5 x6 x7 x9=some (x0,x2||x1==4,P,x4,x5,x6,x7,x9):=by
 unfold ga fB
 cases x2<;>exact ⟨rfl,rfl⟩
theorem LM (n x0:Nat) (b:Bool) (L:List TR) (e l:Bool) (x5 x6:List TI):
  fW n x0 b L e l x5 x6=some (x0,L,(if b then 4 else 3),e,l,x5,x6)/\fw n x0 b L e l x5 x6=some (x0,L,(if b then 4 else 3),e,l,x5,x6):=by
 unfold fW fw
 cases b<;>exact ⟨rfl,rfl⟩
theorem LL (n:Nat) (x0 x1:Int) (x2:TD) (x3:Int) (x4:TD) (x5:Int) (x6:TD) (x7 x8:Bool) (x9:Int) (x10:TD) (x11:Int) (x12:TD) (x13:Int) (x14:TD) (x15 x16:Bool) (x17 x18:List TI):
  eg n x0 x1 x2 x3 x4 x5 x6 x7 x8 x9 x10 x11 x12 x13 x14 x15 x16 x17 x18=some ((x0==0)&&x15,x1,x2,x3,x4,x5,x6,x7,x8,x9,x10,x11,x12,x13,x14,x15,x16,x17,x18):=by
 unfold eg
 cases (x0==0)<;>rfl
theorem LN (n:Nat) (x0:Bool) (x1:Int) (x2:TD) (x3:Int) (x4:TD) (x5:Int) (x6:TD) (x7 x8:Bool) (x9:Int) (x10:TD) (x11:Int) (x12:TD) (x13:Int) (x14:TD) (x15 x16:Bool) (x17 x18:List TI):
  ei n x0 x1 x2 x3 x4 x5 x6 x7 x8 x9 x10 x11 x12 x13 x14 x15 x16 x17 x18=some (x1,x2,x3,x4,x5,x6,x7,x8,x9,x10,x11,x12,x13,x14,x15,!x0&&x16,x17,x18):=by
 unfold ei
 cases x0<;>rfl
theorem ta {x:TD} (hs:smT x) (hc:cF x=0):RightE 1 x 0 d0 0 d0 false false []:=by
 refine ⟨⟨hs,yC,yC,λt ht=>by cases ht⟩,?_,by simp,by omega,by simp⟩
 have hz:eqD d0 d0=true:=mC.2 rfl
 have hu:unuB 1 x 0 d0 0 d0 false false ([]:List TI).length=false:=by unfold unuB;rw [hz];rfl
 unfold jg
 rw [ab (by omega),ab (by rw [hu];simp),ad rfl,hc]
theorem qb {KF KT:Int} {x y:TD} (hx:smT x) (hy:smT y) (h:tq KF x KT y=0):RightE 2 d0 KF x KT y false false []:=by
 refine ⟨⟨yC,hx,hy,λt ht=>by cases ht⟩,?_,by simp,by omega,by simp⟩
 have hz:eqD d0 d0=true:=mC.2 rfl
 have hu:unuB 2 d0 KF x KT y false false ([]:List TI).length=false:=by unfold unuB;rw [hz];rfl
 unfold jg
 rw [ab (by omega),ab (by rw [hu];simp),ab (by omega),ad rfl,h]
theorem G0 (x:TD):uT 1 x=if cF x=0 then if exT x=true then 0 else 11 else cF x:=by
 unfold uT chkB
 rw [ad rfl]
 rfl
theorem uS {x:TD} (h:uT 1 x=0):cF x=0/\exT x=true:=by
 rw [G0] at h
 by_cases hc:cF x=0
 ·rw [ad hc] at h
  by_cases he:exT x=true
  ·exact ⟨hc,he⟩
  ·rw [ab he] at h;cases h
 ·rw [ab hc] at h;exact absurd h hc
theorem JD {x:TD} (hc:cF x=0) (he:exT x=true):uT 1 x=0:=by
 rw [G0,ad hc,ad he]
theorem xP {KF KT:Int} {x y:TD} (h1:uT KF x=0) (h2:uT KT y=0):tq KF x KT y=if KF≠1/\KT≠1 then 11 else if KF≠1\/KT≠1 then 0 else if (dyT x).1>(dyT y).2 then 11 else 0:=by
 unfold tq fS9
 rw [h1,h2,ab (λh=>h rfl),ab (λh=>h rfl)]
theorem Mc {n x0:Nat} {L:List TR} {r:TR} (h0:0<x0) (hr:L[0]?=some r) (hn:n=20000000) (hw:wfR r) {KF KT:Int} {x y:TD} (sx:smT x) (sy:smT y) (h1:uT KF x=0) (h2:uT KT y=0) (X:List TI):
  ∃KF' x' KT' y',fN n x0 (tq KF x KT y != 0) L KF x KT y X=some (KF',x',KT',y',X)/\fm n x0 (tq KF x KT y != 0) L KF x KT y X=some (KF',x',KT',y',X)/\
   smT x'/\smT y'/\tq KF' x' KT' y'=0:=by
 subst hn
 unfold fN fm
 by_cases hp:tq KF x KT y=0
 ·rw [show (tq KF x KT y != 0)=false from by simp [hp]]
  exact ⟨KF,x,KT,y,rfl,rfl,sx,sy,hp⟩
 ·rw [show (tq KF x KT y != 0)=true from by simp [hp],aj,aj]
  unfold iU ip
  by_cases hk:KF=1
  ·subst hk
   have hk2:KT=1:=by
    rw [xP h1 h2] at hp
    by_cases h:KT=1
    ·exact h
    ·rw [ab (by simp),ad (.inr h)] at hp
     exact absurd rfl hp
   subst hk2
   obtain ⟨c1,e1⟩:=uS h1
   obtain ⟨c2,e2⟩:=uS h2
   have l1:=ML c1 e1
   have l2:=ML c2 e2
   have hgt:(dyT x).1>(dyT y).2:=by
    rw [xP h1 h2,ab (by simp),ab (by simp)] at hp
    by_cases h:(dyT x).1>(dyT y).2
    ·exact h
    ·rw [ab h] at hp;exact absurd rfl hp
   refine ⟨1,y,1,x,rfl,rfl,sy,sx,?_⟩
   rw [xP h2 h1,ab (by simp),ab (by simp),ab (by omega)]
  ·obtain ⟨z,e,sz,cz,xz,_⟩:=ExI (d4 (d8 r)).1 hw.2
   have e':bi 20000000 (d8 r).2.2.2.1 (d4 (d8 r)).1 (d4 (d8 r)).2.1 (d4 (d8 r)).2.2.1 (d4 (d8 r)).2.2.2.1 (d16 r).1 (d16 r).2.1 (d16 r).2.2.1 (d16 r).2.2.2.1 (d4 (d16 r))=some z:=e
   have i0:ix x0 (0:Int)=some 0:=cY (i:=0) h0
   rw [show (KF != 1)=true from by simp [hk],aj,i0]
   simp only [ob,hr,e',u5,u4,u3,u2]
   refine ⟨KF,x,1,z,rfl,rfl,sx,sz,?_⟩
   rw [xP h1 (JD cz xz),ab (by simp),ad (.inl hk)]
theorem H4 {L:List TR} (hL:∀r∈L,wfR r) {n:Nat} (h1:1<=n) (hn:n<=L.length) (h5:n<=5) {k:Int} (hk:k=3\/k=4) (e l:Bool) {I:List TI} (hI:I.length=n) (hit:∀t∈I,smI t/\itI t (k==4)=0)
  {p q:TD} (sp:smT p) (pp:plT p=true) (sq:smT q) (pq:plT q=true):
  RightE k d0 0 d0 0 d0 e (!(decide (n=1)&&e)&&l) (if l=true then (if e=true then I.set 0 (mkI p false d0) else I).set (n - 1) (mkI q false d0) else if e=true then I.set 0 (mkI p false d0) else I):=by
 obtain ⟨p1,p2,p3⟩:=wZ (all:=(k==4)) sp pp
 obtain ⟨q1,q2,q3⟩:=wZ (all:=(k==4)) sq pq
 have hA:∀t∈(if e=true then I.set 0 (mkI p false d0) else I),smI t/\itI t (k==4)=0:=by
  intro t ht
  split at ht
  ·rcases H6 ht with h | h
   ·exact hit t h
   ·rw [h];exact ⟨p1,p2⟩
  ·exact hit t ht
 have hlA:(if e=true then I.set 0 (mkI p false d0) else I).length=n:=by split<;>simp [hI]
 have hA0:e=true->(if e=true then I.set 0 (mkI p false d0) else I)[0]?=some (mkI p false d0):=by
  intro h
  rw [ad h,GU (by omega)]
 generalize hgA:(if e=true then I.set 0 (mkI p false d0) else I)=A at hA hlA hA0
 have hlB:(if l=true then A.set (n - 1) (mkI q false d0) else A).length=n:=by split<;>simp [hlA]
 have hB:∀t∈(if l=true then A.set (n - 1) (mkI q false d0) else A),smI t/\itI t (k==4)=0:=by
  intro t ht
  split at ht
  ·rcases H6 ht with h | h
   ·exact hA t h
   ·rw [h];exact ⟨q1,q2⟩
  ·exact hA t ht
 refine I5 hk (by omega) (by omega) hB (λhe=>?_) (λhl=>?_) (λhe hl=>?_)
 ·by_cases hl:l=true
  ·rw [ad hl]
   by_cases hn1:n=1
   ·subst hn1
    exact ⟨mkI q false d0,by rw [GU (by omega)],q3⟩
   ·exact ⟨mkI p false d0,by rw [List.getElem?_set_ne (by omega)];exact hA0 he,p3⟩
  ·rw [ab hl]
   exact ⟨_,hA0 he,p3⟩
 ·simp only [ay] at hl
  rw [ad hl.2,A9,hlA]
  exact ⟨mkI q false d0,by rw [GU (by omega)],q3⟩
 ·rw [he] at hl
  simp only [wU,ay,jM,vt] at hl
  rw [hlB]
  exact hl.1
theorem OM:wfR ((0,false,0,0,0,0,0,0,0,0,0,0,false,0,0,0,0,0,0,0,0):TR):=by
 have z:natI 0 256:=⟨by omega,by omega⟩
 have z2:natI 0 65536:=⟨by omega,by omega⟩
 exact ⟨⟨z,z2,z,z,z,z,z,z,z⟩,⟨z,z2,z,z,z,z,z,z,z⟩⟩
theorem min5 (m:Nat):cond (decide ((5:Int)<((m:Nat):Int))) 5 ((m:Nat):Int)=((min 5 m:Nat):Int):=by
 by_cases h:5<m
 ·rw [ar (by omega),aj];omega
 ·rw [aq (by omega),af];omega
theorem Ph (k:Nat):((((k%8:Nat):Int)==0)||((((k%8:Nat):Int)==1)||(((k%8:Nat):Int)==2)))=decide (k%8<3)/\((((k%8:Nat):Int)==3)||(((k%8:Nat):Int)==4))=decide (k%8=3\/k%8=4):=by
 have h:k%8<8:=o8 _ (by omega)
 generalize k%8=j at *
 rcases (by omega:j=0\/j=1\/j=2\/j=3\/j=4\/j=5\/j=6\/j=7) with rfl | rfl | rfl | rfl | rfl | rfl | rfl | rfl<;>decide
theorem E_of {K E0 E1 B:Int} (hK:natI K 256) (h0:natI E0 256) (h1:natI E1 256) (hB:natI B 256) {L:List TR} (hL:∀r∈L,wfR r):
  ∃k D KF DF KT DT e l I,jE 20000000 K E0 E1 B L=some (k,D,KF,DF,KT,DT,e,l,I)/\RightE k D KF DF KT DT e l I:=by
 obtain ⟨K,rfl,bK⟩:=hK.nat
 have t8:Int.tmod (K:Int) 8=((K%8:Nat):Int):=rfl
 obtain ⟨k1,k2⟩:=Ph K
 unfold jE jl
 rw [show (len L==0)=decide (L.length=0) from Bh _]
 generalize hM:(if L=[] then [(0,false,0,0,0,0,0,0,0,0,0,0,false,0,0,0,0,0,0,0,0)] else L:List TR)=M
 have hMw:∀r∈M,wfR r:=by
  intro r hr
  rw [<-hM] at hr
  split at hr
  ·rw [u0.1 hr];exact OM
  ·exact hL r hr
 have hMl:1<=M.length:=by
  rw [<-hM]
  split
  ·simp
  ·rename_i h
   exact List.length_pos_iff.2 h
 have hn:min 5 M.length<=M.length:=Bf _ _
 have hm1:1<=min 5 M.length:=by omega
 have hm5:min 5 M.length<=5:=Nat.min_le_left _ _
 obtain ⟨r,hr⟩:∃r,M[0]?=some r:=⟨M[0],bD (by omega)⟩
 obtain ⟨r',hr'⟩:∃r,M[min 5 M.length - 1]?=some r:=⟨M[min 5 M.length - 1],bD (by omega)⟩
 have hw:=hMw r (eT hr)
 have hw':=hMw r' (eT hr')
 obtain ⟨x,ex,sx,cx⟩:=DofI r.2.1 hw.1
 obtain ⟨KF,bf,ebf,sbf,cbf,_⟩:=BofI r.2.1 h0 hw.1
 obtain ⟨KT,bt,ebt,sbt,cbt,_⟩:=BofI (d4 (d8 r)).1 h1 hw.2
 obtain ⟨p,ep,sp,pp⟩:=C3 r.2.1 hw.1
 obtain ⟨q,eq,sq,pq⟩:=C3 r'.2.1 hw'.1
 have i0:ix (min 5 M.length) (0:Int)=some 0:=cY (i:=0) (by omega)
 have ebx:bx M.length (cond (decide ((5:Int)<len M)) 5 (len M))=some (min 5 M.length):=by
  rw [show (cond (decide ((5:Int)<len M)) 5 (len M))=((min 5 M.length:Nat):Int) from min5 _,eH hn]
 have hlast:w64 (((min 5 M.length:Nat):Int) - 1)=((min 5 M.length - 1:Nat):Int):=AY (by omega) (by omega)
 have hl0:(((min 5 M.length - 1:Nat):Int)==0)=decide (min 5 M.length=1):=by
  rw [Bh];congr 1;exact propext (by omega)
 by_cases hnil:L=[]
 ·rw [ad hnil] at hM
  subst hnil
  rw [show decide (([]:List TR).length=0)=true from rfl,aj]
  simp only [obs,sm,ob,u7,u6,u5,u4,u3,u2,hM,ebx,t8,(O2 _ _ _ _ _ _ _ _ _ _ _).1,u10,u9,u8,k1]
  by_cases hs:K%8<3
  ·rw [ar hs]
   simp only [aj,i0,hr,ex]
   exact ⟨_,_,_,_,_,_,_,_,_,rfl,ta sx cx⟩
  rw [aq hs]
  simp only [af,(LW _ _ _ _ _ _ _ _ _ _ _).1,u9,u8,u7,u6,u5,u4,u3,u2,k2]
  by_cases hv:K%8=3\/K%8=4
  ·rw [ar hv]
   have ebf':bJ 20000000 E0 r.1 r.2.1 r.2.2.1 r.2.2.2.1 (d4 r).1 (d4 r).2.1 (d4 r).2.2.1 (d4 r).2.2.2.1 (d8 r).1 (d8 r).2.1=some (KF,bf):=ebf
   have ebt':bJ 20000000 E1 (d8 r).2.2.2.1 (d4 (d8 r)).1 (d4 (d8 r)).2.1 (d4 (d8 r)).2.2.1 (d4 (d8 r)).2.2.2.1 (d16 r).1 (d16 r).2.1 (d16 r).2.2.1 (d16 r).2.2.2.1 (d4 (d16 r))=some (KT,bt):=ebt
   obtain ⟨KF',x',KT',y',j1,_,s1,s2,hp⟩:=Mc (n:=20000000) (x0:=min 5 M.length) (by omega) hr rfl hw sbf sbt cbf cbt ([]:List TI)
   simp only [aj,i0,hr,ebf',ebt',A7 sbf sbt,j1,u5,u4,u3,u2]
   exact ⟨_,_,_,_,_,_,_,_,_,rfl,qb s1 s2 hp⟩
  rw [aq hv]
  generalize (Int.tmod B 2==1)=e
  generalize (Int.tmod (w8 (Int.tdiv B 2)) 2==1)=l
  rw [t8]
  generalize (((K%8:Nat):Int)==7)=b7
  obtain ⟨I,o1,o2,o3,_⟩:=EX hMw hn hm5 (if b7=true then 4 else 3) e l []
  have hk:(if b7=true then (4:Int) else 3)=3\/(if b7=true then (4:Int) else 3)=4:=by cases b7<;>simp
  simp only [af,(LM _ _ _ _ _ _ _ _).1,o3,hlast,u7,u6,u5,u4,u3,u2]
  simp only [u20,u19,u18,u17,u16,u15,u14,u13,u12,u11,u10,u9,u8,u7,u6,u5,u4,u3,u2]
  rw [(MF 20000000 _ _ _ _ _ _ _ _ _ _ _ _ _ _ _ _ _ _ _ _ _ (by omega) hr (by omega) ep).1]
  simp only [u21,u20,u19,u18,u17,u16,u15,u14,u13,u12,u11,u10,u9,u8,u7,u6,u5,u4,u3,u2]
  rw [hlast,(Me 20000000 (min 5 M.length) (min 5 M.length - 1) _ _ _ _ _ _ _ _ _ _ _ _ _ _ _ _ _ _ _ (by omega) hr' (by split<;>simp [o1]<;>omega) eq).1]
  simp only [u21,u20,u19,u18,u17,u16,u15,u14,u13,u12,u11,u10,u9,u8,u7,u6,u5,u4,u3,u2,LL,LN,hl0]
  exact ⟨_,_,_,_,_,_,_,_,_,rfl,H4 hMw hm1 hn hm5 hk e l o1 o2 sp pp sq pq⟩
 ·rw [ab hnil] at hM
  subst hM
  rw [aq (show ¬L.length=0 from λh=>hnil (vh h)),af]
  simp only [obs,sm,ob,u7,u6,u5,u4,u3,u2,ebx,t8,(O2 _ _ _ _ _ _ _ _ _ [] _).2,u10,u9,u8,k1]
  by_cases hs:K%8<3
  ·rw [ar hs]
   simp only [aj,i0,hr,ex]
   exact ⟨_,_,_,_,_,_,_,_,_,rfl,ta sx cx⟩
  rw [aq hs]
  simp only [af,(LW _ _ _ _ _ _ _ _ _ [] _).2,u9,u8,u7,u6,u5,u4,u3,u2,k2]
  by_cases hv:K%8=3\/K%8=4
  ·rw [ar hv]
   have ebf':bJ 20000000 E0 r.1 r.2.1 r.2.2.1 r.2.2.2.1 (d4 r).1 (d4 r).2.1 (d4 r).2.2.1 (d4 r).2.2.2.1 (d8 r).1 (d8 r).2.1=some (KF,bf):=ebf
   have ebt':bJ 20000000 E1 (d8 r).2.2.2.1 (d4 (d8 r)).1 (d4 (d8 r)).2.1 (d4 (d8 r)).2.2.1 (d4 (d8 r)).2.2.2.1 (d16 r).1 (d16 r).2.1 (d16 r).2.2.1 (d16 r).2.2.2.1 (d4 (d16 r))=some (KT,bt):=ebt
   obtain ⟨KF',x',KT',y',_,j1,s1,s2,hp⟩:=Mc (n:=20000000) (x0:=min 5 L.length) (by omega) hr rfl hw sbf sbt cbf cbt ([]:List TI)
   simp only [aj,i0,hr,ebf',ebt',A7 sbf sbt,j1,u5,u4,u3,u2]
   exact ⟨_,_,_,_,_,_,_,_,_,rfl,qb s1 s2 hp⟩
  rw [aq hv]
  generalize (Int.tmod B 2==1)=e
  generalize (Int.tmod (w8 (Int.tdiv B 2)) 2==1)=l
  rw [t8]
  generalize (((K%8:Nat):Int)==7)=b7
  obtain ⟨I,o1,o2,_,o3⟩:=EX hMw hn hm5 (if b7=true then 4 else 3) e l []
  have hk:(if b7=true then (4:Int) else 3)=3\/(if b7=true then (4:Int) else 3)=4:=by cases b7<;>simp
  simp only [af,(LM _ _ _ _ _ _ _ _).2,o3,hlast,u7,u6,u5,u4,u3,u2]
  simp only [u20,u19,u18,u17,u16,u15,u14,u13,u12,u11,u10,u9,u8,u7,u6,u5,u4,u3,u2]
  rw [(MF 20000000 _ _ _ _ _ _ _ _ _ _ _ _ _ _ _ _ _ _ _ _ _ (by omega) hr (by omega) ep).2]
  simp only [u21,u20,u19,u18,u17,u16,u15,u14,u13,u12,u11,u10,u9,u8,u7,u6,u5,u4,u3,u2]
  rw [hlast,(Me 20000000 (min 5 L.length) (min 5 L.length - 1) _ _ _ _ _ _ _ _ _ _ _ _ _ _ _ _ _ _ _ (by omega) hr' (by split<;>simp [o1]<;>omega) eq).2]
  simp only [u21,u20,u19,u18,u17,u16,u15,u14,u13,u12,u11,u10,u9,u8,u7,u6,u5,u4,u3,u2,LL,LN,hl0]
  exact ⟨_,_,_,_,_,_,_,_,_,rfl,H4 hMw hm1 hn hm5 hk e l o1 o2 sp pp sq pq⟩
noncomputable instance decTI:DecidableEq TI:=λa b=>Classical.propDecidable (a=b)
def endC (K:Int):UInt8:=if K=4 then 125 else 93
theorem BN {K:Int} (hK:K=3\/K=4) (n:Nat):gB n K=some ([if K=4 then 123 else 91],[endC K]):=by
 rcases hK with rfl | rfl<;>rfl
theorem M4 {α:Type} {I:List α} (h:I.length<=256):Nat.ble (I.length+1) dn=true:=cN (by unfold dn;omega)
noncomputable def setE (K:Int) (e l:Bool) (I:List TI):Int×Int:=jg K d0 0 d0 0 d0 e l I
def Ft (x:TD):aa:=y8 x.1 x.2.1 x.2.2.1 x.2.2.2.1 x.2.2.2.2.1 x.2.2.2.2.2.1 x.2.2.2.2.2.2.1 x.2.2.2.2.2.2.2.1.toNat x.2.2.2.2.2.2.2.2.1.toNat x.2.2.2.2.2.2.2.2.2.toNat
theorem Is {x:TD} (hs:smT x) (hc:cF x=0):∃(g l:Bool) (dg:aa) (e q:Nat) (m d:aa) (a b c:Nat),x=(g,l,dg,(e:Int),(q:Int),m,d,(a:Int),(b:Int),(c:Int))/\OkD g l dg e q m d a b c:=by
 have h:=mZ hc
 obtain ⟨g,l,dg,e,q,m,d,k0,k1,k2⟩:=x
 obtain ⟨e',q',a,b,c,h1,h2,h3,h4,h5,h6⟩:=zI hs.2.2.2.1 hs.2.2.2.2.1 hs.2.2.2.2.2 h
 simp only at h1 h2 h3 h4 h5
 subst h1 h2 h3 h4 h5
 exact ⟨_,_,_,_,_,_,_,_,_,_,rfl,h6⟩
theorem dfT {x:TD} (hs:smT x) (hc:cF x=0):ap10 (ec 20000000) x=some (Ft x,0):=by
 have:=Ko 19999700 x.1 x.2.1 x.2.2.1 x.2.2.2.1 x.2.2.2.2.1 x.2.2.2.2.2.1 x.2.2.2.2.2.2.1 x.2.2.2.2.2.2.2.1 x.2.2.2.2.2.2.2.2.1 x.2.2.2.2.2.2.2.2.2 hs.1 hs.2.1 hs.2.2.2.1 hs.2.2.2.2.1 hs.2.2.2.2.2
 rw [ad (mZ hc)] at this
 exact this
theorem rfT {x:TD} (hs:smT x) (hc:cF x=0):ap10 (dF 20000000) x=some (Ft x):=
 Gi 19999700 hs.2.2.2.1 hs.2.2.2.2.1 hs.2.2.2.2.2 (mZ hc)
theorem mY {x:TD} (hs:smT x) (hc:cF x=0):(Ft x).length<=37:=by
 obtain ⟨g,l,dg,e,q,m,d,a,b,c,rfl,ok⟩:=Is hs hc
 exact Gw ok
structure OkI (t:TI):Prop where
 sm:smI t
 a:cF (iF t)=0
 b:rT t=true->cF (iT t)=0
 n:rT t=false->iT t=d0
def fb (t:TI):aa:=if rT t then Ft (iF t)++([46,46]++Ft (iT t)) else Ft (iF t)
theorem uy {t:TI} (h:OkI t):(fb t).length<=76:=by
 have h1:=mY h.sm.1 h.a
 unfold fb
 split
 ·rename_i hr
  have h2:=mY h.sm.2 (h.b hr)
  simp only [bq,aN,bm]
  omega
 ·omega
def Cf (I:List TI):aa:=(I.map λt=>44::fb t).flatten
def GF (K:Int) (e l:Bool) (I:List TI):aa:=
 (if K=4 then 123 else 91)::((if e then [46,46] else [])++(Lib.join (I.map fb) [44]++((if l then [46,46] else [])++[endC K])))
theorem Jq (t:TI) (I:List TI):Lib.join ((t::I).map fb) [44]=fb t++Cf I:=by
 rw [eV,Lib.join_cons]
 unfold Lib.joinTail Cf
 rw [qF]
 rfl
theorem vM {x y:TD} {r all:Bool} (h:itE x r y all=0):cF x=0/\(r=true->cF y=0)/\(r=false->y=d0)/\itE x r y false=0:=by
 by_cases hc:cF x=0
 ·refine ⟨hc,?_⟩
  cases r
  ·rw [IT hc] at h ⊢
   have hy:eqD y d0=true:=by
    cases hz:eqD y d0
    ·rw [hz] at h;simp at h
    ·rfl
   exact ⟨λh=>(by cases h),λ_=>mC.1 hy,by rw [hy];simp⟩
  ·by_cases hy:cF y=0
   ·rw [N7 hc hy] at h ⊢
    have ho:ordB x y=true:=by
     cases hz:ordB x y
     ·rw [hz] at h;simp at h
     ·rfl
    exact ⟨λ_=>hy,λh=>(by cases h),by rw [ho];simp⟩
   ·rw [MZ hc hy] at h;exact absurd h hy
 ·rw [QM hc] at h;exact absurd h hc
theorem MI {t:TI} {all:Bool} (hs:smI t) (h:itI t all=0):OkI t:=by
 obtain ⟨a,b,c,_⟩:=vM h
 exact ⟨hs,a,b,c⟩
theorem vW {x y:TD} (r:Bool) (hx:smT x) (hy:smT y):gz 20000000 x r y=some (if itE x r y false=0 then (fb (mkI x r y),0) else ([],itE x r y false)):=by
 unfold gz
 rw [B6 r hx hy,ad (.inl rfl),show ((3:Int)==4)=false from rfl]
 simp only [ob]
 by_cases h:itE x r y false=0
 ·obtain ⟨a,b,c,_⟩:=vM h
  rw [ad h,h,dfT hx a]
  simp only [fh,af,u2]
  cases r
  ·rfl
  ·have l1:=mY hx a
   have l2:=mY hy (b rfl)
   simp only [aj,dfT hy (b rfl)]
   rw [bS (by simp only [aN,bm];omega)]
   simp only []
   rw [bS (by simp only [bq,aN,bm];omega)]
   rfl
 ·rw [ab h,show (itE x r y false != 0)=true from by simp [h]]
  rfl
theorem zE {t:TI} (ok:OkI t):dD 20000000 (iF t) (rT t) (iT t)=some (fb t):=by
 unfold dD fb
 rw [rfT ok.sm.1 ok.a]
 cases hr:rT t
 ·rfl
 ·have l1:=mY ok.sm.1 ok.a
  have l2:=mY ok.sm.2 (ok.b hr)
  simp only [aj,ob,rfT ok.sm.2 (ok.b hr)]
  rw [bS (by simp only [aN,bm];omega)]
  simp only []
  rw [bS (by simp only [bq,aN,bm];omega)]
  simp only [aT,qo]
theorem AS:∀{I:List TI},(∀t∈I,OkI t)->(Cf I).length<=77*I.length
 | [],_=>by simp [Cf]
 | t::I,h=>by
  have h1:=uy (h t vR)
  have h2:=AS (I:=I) λu hu=>h u (gH _ hu)
  have:Cf (t::I)=(44::fb t)++Cf I:=by simp [Cf]
  rw [this]
  simp only [bq,aN]
  omega
theorem ul {I:List TI} (h:∀t∈I,OkI t):(Lib.join (I.map fb) [44]).length<=77*I.length:=by
 cases I with
 | nil=>simp [Lib.join_nil]
 | cons t I=>
  have h1:=uy (h t vR)
  have h2:=AS (I:=I) λu hu=>h u (gH _ hu)
  rw [Jq]
  simp only [bq,aN]
  omega
theorem GH {I:List TI} {i:Nat} {t:TI} (h:I[i]?=some t) (w:aa) (hw:w=fb t):((I.take i).map fb++List.replicate (I.length - i) []).set i w=(I.take (i+1)).map fb++List.replicate (I.length - (i+1)) []:=by
 have hi:i<I.length:=(ol.1 h).1
 obtain ⟨k,hk⟩:∃k,I.length - i=k+1:=⟨I.length - i - 1,by omega⟩
 have hl:((I.take i).map fb).length=i:=by simp;omega
 rw [hk,qE,show I.length - (i+1)=k by omega,n7,h,hw]
 rw [List.set_append_right _ _ (by omega),hl,xY]
 simp
theorem HY {I:List TI} (hs:∀t∈I,OkI t/\itI t false=0) (hn:I.length<=1000) (K:Int) (D:TD) (KF:Int) (DF:TD) (KT:Int) (DT:TD) (e l:Bool):∀(r i:Nat),i+r=I.length->∀N,r<N->
  aw (dr 20000000) N (len I,(i:Int),I,K,D,KF,DF,KT,DT,e,l,(I.take i).map fb++List.replicate (I.length - i) [])=some (I,K,D,KF,DF,KT,DT,e,l,I.map fb):=by
 intro r
 induction r with
 | zero=>
  intro i hi N hN
  obtain ⟨N,rfl⟩:∃k,N=k+1:=⟨N - 1,by omega⟩
  obtain rfl:i=I.length:=by omega
  have:dr 20000000 (len I,((I.length:Nat):Int),I,K,D,KF,DF,KT,DT,e,l,(I.take I.length).map fb++List.replicate (I.length - I.length) [])=some (.inr (I,K,D,KF,DF,KT,DT,e,l,I.map fb)):=by
   unfold dr
   simp only [u12,u11,u10,u9,u8,u7,u6,u5,u4,u3,u2]
   rw [aq (show ¬((I.length:Nat):Int)<len I by show ¬((I.length:Nat):Int)<((I.length:Nat):Int);omega),xY,nH]
   simp
  rw [aw,this]
 | succ r ih=>
  intro i hi N hN
  obtain ⟨N,rfl⟩:∃k,N=k+1:=⟨N - 1,by omega⟩
  have hil:i<I.length:=by omega
  have hg:I[i]?=some I[i]:=bD hil
  obtain ⟨ok,h0⟩:=hs _ (Ip hil)
  generalize I[i]=t at hg ok h0
  have hl:((I.take i).map fb++List.replicate (I.length - i) ([]:aa)).length=I.length:=by simp;omega
  have:dr 20000000 (len I,(i:Int),I,K,D,KF,DF,KT,DT,e,l,(I.take i).map fb++List.replicate (I.length - i) [])=some (.inl (len I,((i+1:Nat):Int),I,K,D,KF,DF,KT,DT,e,l,(I.take (i+1)).map fb++List.replicate (I.length - (i+1)) [])):=by
   unfold dr
   simp only [u12,u11,u10,u9,u8,u7,u6,u5,u4,u3,u2]
   rw [ar (show (i:Int)<len I by show (i:Int)<((I.length:Nat):Int);omega),cY hil]
   simp only [aj,ob,hg]
   rw [show gz 20000000 (iF t) (d8 t).2.2.1 (d8 t).2.2.2=some (fb t,0) from (vW (rT t) ok.sm.1 ok.sm.2).trans (by rw [ad (show itE (iF t) (rT t) (iT t) false=0 from h0)])]
   simp only [hl]
   rw [cY hil]
   simp only []
   obtain ⟨w,hw⟩:∃w,((I.take i).map fb++List.replicate (I.length - i) ([]:aa))[i]?=some w:=⟨_,bD (by omega)⟩
   rw [hw]
   simp only [u2]
   rw [GH hg _ rfl,qt (by omega)]
  rw [aw,this]
  exact ih (i+1) (by omega) N (by omega)
structure SetP (K:Int) (D:TD) (KF:Int) (DF:TD) (KT:Int) (DT:TD) (e l:Bool) (I:List TI):Prop where
 kind:K=3\/K=4
 d:D=d0
 kf:KF=0
 df:DF=d0
 kt:KT=0
 dt:DT=d0
 one:1<=I.length
 most:I.length<=256
 its:∀t∈I,itI t (K==4)=0
 set:(setE K e l I).2=0
theorem wW {A:Type} {f:Nat->A->Int}:∀{L:List A} {k:Nat},ra f k L=none->∀t∈L,∃i,f i t=0
 | u::L,k,h,t,ht=>by
  rw [ra] at h
  split at h
  ·cases h
  ·rename_i hf
   rcases cq.1 ht with rfl | ht
   ·exact ⟨k,IR.1 hf⟩
   ·exact wW h t ht
theorem En {A:Type} {f:Nat->A->Int}:∀{L:List A} {k:Nat} {p:Nat×Int},ra f k L=some p->p.2≠0
 | u::L,k,p,h=>by
  rw [ra] at h
  split at h
  ·rename_i hf;cases h;exact hf
  ·exact En h
theorem QW {K:Int} {e l:Bool} {n i:Nat} {t:TI} (h:errI K e l n i t=0):itI t (K==4)=0:=by
 unfold errI at h
 split at h
 ·rename_i h1;exact absurd h h1
 ·rename_i h1;exact IR.1 h1
theorem zR {K:Int} (hK:K=3\/K=4) {D:TD} {KF:Int} {DF:TD} {KT:Int} {DT:TD} {e l:Bool} {I:List TI} (h:(jg K D KF DF KT DT e l I).2=0):SetP K D KF DF KT DT e l I:=by
 have h0:=h
 unfold jg at h
 rw [ab (by omega)] at h
 split at h
 ·simp at h
 ·rename_i hu
  rw [ab (by omega),ab (by omega)] at h
  split at h
  ·simp at h
  ·split at h
   ·simp at h
   ·unfold wy at h
    have hD:D=d0/\KF=0/\DF=d0/\KT=0/\DT=d0:=by
     unfold unuB at hu
     have k1:(K==1)=false:=by rcases hK with rfl | rfl<;>rfl
     have k2:(K==2)=false:=by rcases hK with rfl | rfl<;>rfl
     have k3:(K==3||(K==4||(decide (I.length=0)&&(!e&&!l))))=true:=by rcases hK with rfl | rfl<;>rfl
     rw [k1,k2,k3] at hu
     generalize h1:eqD D d0=z1 at hu
     generalize h2:eqD DF d0=z2 at hu
     generalize h3:eqD DT d0=z3 at hu
     simp only [uA,dX,Bool.or_false,wU,gj,jM,not_or,Bool.not_eq_false,ay,bN] at hu
     obtain ⟨a,⟨b,c⟩,d,e⟩:=hu
     exact ⟨mC.1 (h1.trans a),b,mC.1 (h2.trans c),d,mC.1 (h3.trans e)⟩
    obtain ⟨rfl,rfl,rfl,rfl,rfl⟩:=hD
    cases hs:ra (errI K e l I.length) 0 I with
    | some p=>rw [hs] at h;exact absurd h (En hs)
    | none=>
     refine ⟨hK,rfl,rfl,rfl,rfl,rfl,by omega,by omega,λt ht=>?_,h0⟩
     obtain ⟨i,hi⟩:=wW hs t ht
     exact QW hi
theorem LJ {K:Int} {D:TD} {KF:Int} {DF:TD} {KT:Int} {DT:TD} {e l:Bool} {I:List TI} (p:SetP K D KF DF KT DT e l I) (hs:∀t∈I,smI t):∀t∈I,OkI t/\itI t false=0:=
 λt ht=>⟨MI (hs t ht) (p.its t ht),(vM (p.its t ht)).2.2.2⟩
def Fg (K:Int):Prop:=K=3\/K=4
instance (K:Int):Decidable (Fg K):=inferInstanceAs (Decidable (K=3\/K=4))
theorem HH {K:Int} {D:TD} {KF:Int} {DF:TD} {KT:Int} {DT:TD} {e l:Bool} {I:List TI} (h:smE D DF DT I):
  pH 20000000 K D KF DF KT DT e l I=some (if Fg K then (if (jg K D KF DF KT DT e l I).2=0 then (GF K e l I,0) else ([],(jg K D KF DF KT DT e l I).2)) else ([],18)):=by
 have main:∀hK:Fg K,(ob (jW 20000000 K D KF DF KT DT e l I) λv18=>(cond (v18 != 0) (some ([],v18)) (cond (decide ((0:Int)<=(len I))&&(decide ((len I)<=(len I))&&decide ((len I)<=(67108864:Int)))) (ob (aw (dr 20000000) 20000000 ((len I),0,I,K,D,KF,DF,KT,DT,e,l,(List.replicate (Int.toNat (len I)) ([]:aa)))) (u10 λ_ v19 _ _ _ _ _ v20 v21 v22=>(ob (gB 20000000 v19) (u2 λv23 v24=>(cond v20 (ob (cat v23 ([46,46]:aa)) λv25=>(cond v21 (ob (cat ([46,46]:aa) v24) λv26=>(cond (Nat.ble (List.length v22) 140737488355328&&Nat.ble (List.length (Lib.join v22 ([44]:aa))) 140737488355328) (ob (cat v25 (Lib.join v22 ([44]:aa))) λv27=>(ob (cat v27 v26) λv28=>(some (v28,0)))) none)) (cond (Nat.ble (List.length v22) 140737488355328&&Nat.ble (List.length (Lib.join v22 ([44]:aa))) 140737488355328) (ob (cat v25 (Lib.join v22 ([44]:aa))) λv29=>(ob (cat v29 v24) λv30=>(some (v30,0)))) none))) (cond v21 (ob (cat ([46,46]:aa) v24) λv31=>(cond (Nat.ble (List.length v22) 140737488355328&&Nat.ble (List.length (Lib.join v22 ([44]:aa))) 140737488355328) (ob (cat v23 (Lib.join v22 ([44]:aa))) λv32=>(ob (cat v32 v31) λv33=>(some (v33,0)))) none)) (cond (Nat.ble (List.length v22) 140737488355328&&Nat.ble (List.length (Lib.join v22 ([44]:aa))) 140737488355328) (ob (cat v23 (Lib.join v22 ([44]:aa))) λv34=>(ob (cat v34 v24) λv35=>(some (v35,0)))) none))))))) none))) =
   some (if (jg K D KF DF KT DT e l I).2=0 then (GF K e l I,(0:Int)) else ([],(jg K D KF DF KT DT e l I).2)):=by
  intro hK
  rw [JA h]
  simp only [ob]
  by_cases h0:(jg K D KF DF KT DT e l I).2=0
  ·have P:=zR hK h0
   have hm:=P.most
   have oks:=LJ P h.2.2.2
   have hj:=ul λt ht=>(oks t ht).1
   rw [ad h0,h0]
   have hloop:=HY oks (by omega) K D KF DF KT DT e l I.length 0 (by omega) 20000000 (by omega)
   simp only [fh,af]
   have c3:(decide ((0:Int)<=(len I))&&(decide ((len I)<=(len I))&&decide ((len I)<=(67108864:Int))))=true:=by
    have:len I=((I.length:Nat):Int):=rfl
    rw [this]
    simp only [ay,cg]
    omega
   rw [c3,aj,show (List.replicate (Int.toNat (len I)) ([]:aa))=(I.take 0).map fb++List.replicate (I.length - 0) [] from by simp]
   rw [show aw (dr 20000000) 20000000 (len I,(0:Int),I,K,D,KF,DF,KT,DT,e,l,(I.take 0).map fb++List.replicate (I.length - 0) [])=_ from hloop]
   have hb:(Nat.ble (List.length (I.map fb)) 140737488355328&&Nat.ble (List.length (Lib.join (I.map fb) ([44]:aa))) 140737488355328)=true:=by
    simp only [ay]
    exact ⟨cN (by simp;omega),cN (by omega)⟩
   simp only [u10,u9,u8,u7,u6,u5,u4,u3,u2,BN hK,hb,aj]
   unfold GF
   generalize hb1:(if K=4 then (123:UInt8) else 91)=b1
   generalize endC K=b2
   generalize Lib.join (I.map fb) [44]=w at hj
   cases e<;>cases l<;>simp only [aj,af]
   ·rw [bS (by simp only [aN,bm];omega)]
    simp only []
    rw [bS (by simp only [bq,aN,bm];omega)]
    simp
   ·rw [bS (by simp only [aN,bm];omega)]
    simp only []
    rw [bS (by simp only [aN,bm];omega)]
    simp only []
    rw [bS (by simp only [bq,aN,bm];omega)]
    simp
   ·rw [bS (by simp only [aN,bm];omega)]
    simp only []
    rw [bS (by simp only [bq,aN,bm];omega)]
    simp only []
    rw [bS (by simp only [bq,aN,bm];omega)]
    simp
   ·rw [bS (by simp only [aN,bm];omega)]
    simp only []
    rw [bS (by simp only [aN,bm];omega)]
    simp only []
    rw [bS (by simp only [bq,aN,bm];omega)]
    simp only []
    rw [bS (by simp only [bq,aN,bm];omega)]
    simp
  ·rw [ab h0,show ((jg K D KF DF KT DT e l I).2 != 0)=true from by simp [h0]]
   rfl
 unfold pH
 by_cases h3:K=3
 ·rw [show (K != 3)=false from by simp [h3],ad (.inl h3)]
  exact main (.inl h3)
 ·rw [show (K != 3)=true from by simp [h3],aj]
  by_cases h4:K=4
  ·rw [show (K != 4)=false from by simp [h4],ad (.inr h4)]
   exact main (.inr h4)
  ·rw [show (K != 4)=true from by simp [h4],ab (by rintro (h | h)<;>contradiction)]
   rfl
theorem GO (ws:List (aa)) (w:aa) (h:ws≠[]):Lib.join (ws++[w]) [44]=Lib.join ws [44]++[44]++w:=by
 cases ws with
 | nil=>exact absurd rfl h
 | cons a r=>
  rw [eQ,Lib.join_cons,Lib.join_cons]
  unfold Lib.joinTail
  simp
theorem FO {I:List TI} (hs:∀t∈I,OkI t) (hn:I.length<=1000) (pre:aa) (hp:pre.length<=10) (K:Int) (D:TD) (KF:Int) (DF:TD) (KT:Int) (DT:TD) (e l:Bool):∀(r i:Nat),i+r=I.length->∀N,r<N->
  aw (bA 20000000) N (pre++Lib.join ((I.take i).map fb) [44],(i:Int),I,K,D,KF,DF,KT,DT,e,l)=some (pre++Lib.join (I.map fb) [44],I,K,D,KF,DF,KT,DT,e,l):=by
 intro r
 induction r with
 | zero=>
  intro i hi N hN
  obtain ⟨N,rfl⟩:∃k,N=k+1:=⟨N - 1,by omega⟩
  obtain rfl:i=I.length:=by omega
  have:∀s,bA 20000000 (s,((I.length:Nat):Int),I,K,D,KF,DF,KT,DT,e,l)=some (.inr (s,I,K,D,KF,DF,KT,DT,e,l)):=by
   intro s
   unfold bA
   simp only [u11,u10,u9,u8,u7,u6,u5,u4,u3,u2]
   rw [aq (show ¬((I.length:Nat):Int)<len I by show ¬((I.length:Nat):Int)<((I.length:Nat):Int);omega)]
   rfl
  rw [aw,this,nH]
 | succ r ih=>
  intro i hi N hN
  obtain ⟨N,rfl⟩:∃k,N=k+1:=⟨N - 1,by omega⟩
  have hil:i<I.length:=by omega
  have hg:I[i]?=some I[i]:=bD hil
  have ok:=hs _ (Ip hil)
  generalize I[i]=t at hg ok
  have hl:=ul (I:=I.take i) λu hu=>hs u (List.mem_of_mem_take hu)
  have hl2:(I.take i).length<=1000:=by rw [de];omega
  have ht:=uy ok
  have htk:(I.take (i+1)).map fb=(I.take i).map fb++[fb t]:=by rw [n7,hg];simp
  have:bA 20000000 (pre++Lib.join ((I.take i).map fb) [44],(i:Int),I,K,D,KF,DF,KT,DT,e,l)=some (.inl (pre++Lib.join ((I.take (i+1)).map fb) [44],((i+1:Nat):Int),I,K,D,KF,DF,KT,DT,e,l)):=by
   unfold bA
   simp only [u11,u10,u9,u8,u7,u6,u5,u4,u3,u2]
   rw [ar (show (i:Int)<len I by show (i:Int)<((I.length:Nat):Int);omega),cY hil]
   have hit:dD 20000000 (iF t) (d8 t).2.2.1 (d8 t).2.2.2=some (fb t):=zE ok
   simp only [aj,ob,hg,hit]
   rw [htk]
   by_cases h0:i=0
   ·subst h0
    rw [aq (show ¬((0:Nat):Int)>0 by omega),af,bS (by simp only [bq];omega),qt (by omega)]
    simp [Lib.join_nil,Lib.join_one]
   ·have hne:(I.take i).map fb≠[]:=by
     intro h
     have:=gh List.length h
     rw [sj,de,bm] at this
     omega
    rw [ar (show (i:Int)>0 by omega),aj,bS (by simp only [bq,aN,bm];omega)]
    simp only []
    rw [bS (by simp only [bq,aN,bm];omega),qt (by omega),GO _ _ hne]
    simp
  rw [aw,this]
  exact ih (i+1) (by omega) N (by omega)
theorem Gh {K:Int} (hK:Fg K) {I:List TI} (hs:∀t∈I,OkI t) (hn:I.length<=1000) (D:TD) (KF:Int) (DF:TD) (KT:Int) (DT:TD) (e l:Bool):jv 20000000 K D KF DF KT DT e l I=some (GF K e l I):=by
 have hj:=ul hs
 have hl:=λ(pre:aa) (hp:pre.length<=10)=>FO hs hn pre hp K D KF DF KT DT e l I.length 0 (by omega) 20000000 (by omega)
 have e0:Lib.join ((I.take 0).map fb) [44]=[]:=rfl
 rw [e0] at hl
 simp only [sT] at hl
 unfold jv GF
 have l1:=hl [123,46,46] (by simp)
 have l2:=hl [123] (by simp)
 have l3:=hl [91,46,46] (by simp)
 have l4:=hl [91] (by simp)
 rw [show ((0:Nat):Int)=0 from rfl] at l1 l2 l3 l4
 rw [l1,l2,l3,l4]
 generalize Lib.join (I.map fb) [44]=w at hj
 have c1:∀p q:aa,p.length<=10->q.length<=10->cat (p++w) q=some (p++w++q):=λp q hp hq=>bS (by simp only [bq];omega)
 have c2:∀p q r:aa,p.length<=10->q.length<=10->r.length<=10->cat (p++w++q) r=some (p++w++q++r):=λp q r hp hq hr=>bS (by simp only [bq];omega)
 rcases hK with rfl | rfl
 ·rw [show ((3:Int)==4)=false from rfl]
  cases e<;>cases l<;>simp only [aj,af,ob,u10,u9,u8,u7,u6,u5,u4,u3,u2]
  ·simp only [show ((3:Int)==4)=false from rfl,show ((4:Int)==4)=true from rfl,aj,af]
   rw [c1 _ _ (by simp) (by simp)]
   simp [endC]
  ·rw [c1 _ _ (by simp) (by simp)]
   simp only [show ((3:Int)==4)=false from rfl,show ((4:Int)==4)=true from rfl,aj,af]
   rw [c2 _ _ _ (by simp) (by simp) (by simp)]
   simp [endC]
  ·simp only [show ((3:Int)==4)=false from rfl,show ((4:Int)==4)=true from rfl,aj,af]
   rw [c1 _ _ (by simp) (by simp)]
   simp [endC]
  ·rw [c1 _ _ (by simp) (by simp)]
   simp only [show ((3:Int)==4)=false from rfl,show ((4:Int)==4)=true from rfl,aj,af]
   rw [c2 _ _ _ (by simp) (by simp) (by simp)]
   simp [endC]
 ·rw [show ((4:Int)==4)=true from rfl]
  cases e<;>cases l<;>simp only [aj,af,ob,u10,u9,u8,u7,u6,u5,u4,u3,u2]
  ·simp only [show ((3:Int)==4)=false from rfl,show ((4:Int)==4)=true from rfl,aj,af]
   rw [c1 _ _ (by simp) (by simp)]
   simp [endC]
  ·rw [c1 _ _ (by simp) (by simp)]
   simp only [show ((3:Int)==4)=false from rfl,show ((4:Int)==4)=true from rfl,aj,af]
   rw [c2 _ _ _ (by simp) (by simp) (by simp)]
   simp [endC]
  ·simp only [show ((3:Int)==4)=false from rfl,show ((4:Int)==4)=true from rfl,aj,af]
   rw [c1 _ _ (by simp) (by simp)]
   simp [endC]
  ·rw [c1 _ _ (by simp) (by simp)]
   simp only [show ((3:Int)==4)=false from rfl,show ((4:Int)==4)=true from rfl,aj,af]
   rw [c2 _ _ _ (by simp) (by simp) (by simp)]
   simp [endC]
theorem tQ:eC 20000000=some true:=by kernel_rfl
theorem wq {K E0 E1 B:Int} (hK:natI K 256) (h0:natI E0 256) (h1:natI E1 256) (hB:natI B 256) {x y:TD} (r:Bool) (hx:0<=x.2.2.2.2.2.2.2.1/\0<=x.2.2.2.2.2.2.2.2.1/\0<=x.2.2.2.2.2.2.2.2.2) (hy:0<=y.2.2.2.2.2.2.2.1/\0<=y.2.2.2.2.2.2.2.2.1/\0<=y.2.2.2.2.2.2.2.2.2) {L:List TR} (hL:∀r∈L,wfR r):
  gD 20000000 K E0 E1 B x r y L=some true:=by
 unfold gD
 rw [tQ]
 have hj:dq 20000000 L K E0 E1 B x r y=some (!decide (x.2.2.1.length<=30/\x.2.2.2.2.2.1.length<=10/\x.2.2.2.2.2.2.1.length<=10/\y.2.2.1.length<=30/\y.2.2.2.2.2.1.length<=10/\y.2.2.2.2.2.2.1.length<=10),L,K,E0,E1,B,x,r,y):=by
  unfold dq
  have c:∀(w:aa) (k:Nat),decide (len w>(k:Int))=!decide (w.length<=k):=λw k=>by
   by_cases h:w.length<=k
   ·rw [ar h,aq (by show ¬(k:Int)<((w.length:Nat):Int);omega)];rfl
   ·rw [aq h,ar (by show (k:Int)<((w.length:Nat):Int);omega)];rfl
  rw [show decide (len x.2.2.1>30)=_ from c _ 30,show decide (len (d4 x).2.1>10)=_ from c _ 10,show decide (len (d4 x).2.2.1>10)=_ from c _ 10,show decide (len y.2.2.1>30)=_ from c _ 30,show decide (len (d4 y).2.1>10)=_ from c _ 10,show decide (len (d4 y).2.2.1>10)=_ from c _ 10]
  simp only [Bool.decide_and]
  show cond (!decide (x.2.2.1.length<=30)) _ (cond (!decide (x.2.2.2.2.2.1.length<=10)) _ (cond (!decide (x.2.2.2.2.2.2.1.length<=10)) _ (cond (!decide (y.2.2.1.length<=30)) _ (cond (!decide (y.2.2.2.2.2.1.length<=10)) _ (some (!decide (y.2.2.2.2.2.2.1.length<=10),_))))))=_
  generalize decide (x.2.2.1.length<=30)=a1
  generalize decide (x.2.2.2.2.2.1.length<=10)=a2
  generalize decide (x.2.2.2.2.2.2.1.length<=10)=a3
  generalize decide (y.2.2.1.length<=30)=a4
  generalize decide (y.2.2.2.2.2.1.length<=10)=a5
  generalize decide (y.2.2.2.2.2.2.1.length<=10)=a6
  cases a1<;>cases a2<;>cases a3<;>cases a4<;>cases a5<;>rfl
 rw [hj]
 simp only [ob,u9,u8,u7,u6,u5,u4,u3,u2]
 by_cases hs:x.2.2.1.length<=30/\x.2.2.2.2.2.1.length<=10/\x.2.2.2.2.2.2.1.length<=10/\y.2.2.1.length<=30/\y.2.2.2.2.2.1.length<=10/\y.2.2.2.2.2.2.1.length<=10
 case neg=>rw [aq hs];rfl
 rw [ar hs]
 have sx:smT x:=⟨by omega,by omega,by omega,hx⟩
 have sy:smT y:=⟨by omega,by omega,by omega,hy⟩
 have hst:smI (mkI x r y):=⟨sx,sy⟩
 simp only [dX,af,wC r false sx sy,vW r sx sy,ob]
 have hj6:dw 20000000 (itE x r y false) (if itE x r y false=0 then (fb (mkI x r y),(0:Int)) else ([],itE x r y false)).1 (if itE x r y false=0 then (fb (mkI x r y),(0:Int)) else ([],itE x r y false)).2 L K E0 E1 B x r y=some (false,L,K,E0,E1,B,x,r,y):=by
  unfold dw
  by_cases hi:itE x r y false=0
  ·rw [ad hi,hi,show dD 20000000 x r y=some (fb (mkI x r y)) from zE (MI hst (all:=false) hi)]
   simp
  ·rw [ab hi]
   have e1:(itE x r y false==0)=false:=by simp [hi]
   have e2:(itE x r y false != 0)=true:=by simp [hi]
   simp only [fh,af,e1,e2,aj]
   rfl
 rw [hj6]
 simp only [u9,u8,u7,u6,u5,u4,u3,u2,af]
 obtain ⟨k,D,KF,DF,KT,DT,e,l,I,hE,hR⟩:=E_of hK h0 h1 hB hL
 have h5:=hR.len
 have hsm:smE D DF DT (I++[mkI x r y]):=⟨hR.sm.1,hR.sm.2.1,hR.sm.2.2.1,λt ht=>by
  rcases jY.1 ht with h | h
  ·exact hR.sm.2.2.2 t h
  ·rw [u0.1 h];exact hst⟩
 rw [hE]
 simp only [ob,u9,u8,u7,u6,u5,u4,u3,u2]
 rw [M4 (by omega),aj,BC hsm]
 simp only [ob]
 generalize hF:(jg k D KF DF KT DT e l (I++[mkI x r y])).2=F
 have hj12:da 20000000 F k D KF DF KT DT e l (I++[mkI x r y])=some (F,!decide (Fg k),k,D,KF,DF,KT,DT,e,l,I++[mkI x r y]):=by
  unfold da
  by_cases k3:k=3
  ·rw [show (k != 3)=false from by simp [k3],ar (.inl k3)];rfl
  ·rw [show (k != 3)=true from by simp [k3],aj]
   by_cases k4:k=4
   ·rw [show (k != 4)=false from by simp [k4],ar (.inr k4)];rfl
   ·rw [show (k != 4)=true from by simp [k4],aq (by rintro (h | h)<;>contradiction)];rfl
 rw [hj12]
 simp only [u11,u10,u9,u8,u7,u6,u5,u4,u3,u2]
 unfold eB
 by_cases hk:Fg k
 ·rw [ar hk]
  simp only [dX,af,u10,u9,u8,u7,u6,u5,u4,u3,u2,ob]
  rw [HH hsm,ad hk,hF]
  unfold cZ
  by_cases hF0:F=0
  ·have P:=zR hk (hF.trans hF0)
   have oks:=λt ht=>(LJ P hsm.2.2.2 t ht).1
   rw [ad hF0,hF0,Gh hk oks (by simp;omega),tQ]
   simp
  ·rw [ab hF0,tQ]
   have e1:(F==0)=false:=by simp [hF0]
   have e2:(F != 0)=true:=by simp [hF0]
   simp only [e1,e2,sG,aj,af]
   rfl
 ·rw [aq hk]
  simp only [jB,aj,u10,u9,u8,u7,u6,u5,u4,u3,u2,ob]
  rw [HH hsm,ab hk]
  unfold cZ
  rw [tQ]
  rfl
theorem kM {n:Int} (h:(Lit.int .u8 n).wf=true):natI n 256:=⟨(Go.bounds_u8 h).1,by have:=(Go.bounds_u8 h).2;omega⟩
theorem LS {n:Int} (h:(Lit.int .u16 n).wf=true):natI n 65536:=⟨(Go.bounds_u16 h).1,by have:=(Go.bounds_u16 h).2;omega⟩
theorem P7 {y:den [.i .u8,.bo,.i .u16,.i .u8,.i .u8,.i .u8,.i .u8,.i .u8,.i .u8,.i .u8,.i .u8,.i .u8,.bo,.i .u16,.i .u8,.i .u8,.i .u8,.i .u8,.i .u8,.i .u8,.i .u8]}
  (h:oP [.i .u8,.bo,.i .u16,.i .u8,.i .u8,.i .u8,.i .u8,.i .u8,.i .u8,.i .u8,.i .u8,.i .u8,.bo,.i .u16,.i .u8,.i .u8,.i .u8,.i .u8,.i .u8,.i .u8,.i .u8] y):wfR y:=by
 obtain ⟨h0,_,h2,h3,h4,h5,h6,h7,h8,h9,_,k0,_,k2,k3,k4,k5,k6,k7,k8,k9⟩:=h
 exact ⟨⟨kM h0,LS h2,kM h3,kM h4,kM h5,kM h6,kM h7,kM h8,kM h9⟩,⟨kM k0,LS k2,kM k3,kM k4,kM k5,kM k6,kM k7,kM k8,kM k9⟩⟩
end Go.Sh
