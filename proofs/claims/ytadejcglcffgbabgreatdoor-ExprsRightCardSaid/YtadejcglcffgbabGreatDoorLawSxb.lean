
import Derived.Test.YtadejcglcffgbabGreatDoorLawSxa
set_option linter.unusedVariables false
set_option linter.unusedSimpArgs false
set_option maxRecDepth 100000
open Go.IntKind(wrap)
set_option linter.defProp false
namespace Go.Sh
open Go.Abs
def re(d:aa)(y m:Int):Int:=if d=[]then 0 else lenI y m
def qR(d:aa)(y a:Int):List (Int×Int×Int):=((dayI d).filter λk=>decide (k<=re d y a)).map λk=>(y,a,k)
def rc(m d:aa)(y:Int):List (Int×Int×Int):=(monI m).flatMap (qR d y)
def F4{X Y A:Type}{step:X->Option (X⊕Y)}{f:Nat->List A->X}{y:List A->Y}{p:Nat->Bool}{e:Nat->A}{g:Nat}(a:List A)
  (h:∀i out,i<g->out.length<=a.length+i->step (f i out)=some (.inl (f (i+1) (if p (i+1)then out++[e (i+1)]else out))))
  (c:∀out,step (f g out)=some (.inr (y out))) {N:Nat} (b:g<N):aw step N (f 0 a)=some (y (a++((List.range' 1 g).filter p).map e)):=by
 have j:∀(r i:Nat) (out:List A),i+r=g->out.length<=a.length+i->∀N,r<N->aw step N (f i out)=some (y (out++((List.range' (i+1) r).filter p).map e)):=by
  intro r
  induction r with
  | zero=>
   intro i out hi d N b;obtain⟨N,rfl⟩:∃q,N=q+1:=⟨N - 1,by omega⟩;obtain rfl:i=g:=by omega
   rw[aw,c];simp
  | succ r ih=>
   intro i out hi d N b;obtain⟨N,rfl⟩:∃q,N=q+1:=⟨N - 1,by omega⟩;rw[aw,h i out (by omega) (by omega)];show aw step N _=_;by_cases hp:p (i+1)=true
   ·rw[ad hp,ih (i+1) _ (by omega) (by simp;omega) N (by omega),si,Jv hp];simp
   ·rw[ab hp,ih (i+1) _ (by omega) (by omega) N (by omega),si,I5 hp]
 exact j g 0 a (by omega) (by omega) N b
def Gw{X Y A B:Type}{step:X->Option (X⊕Y)}{f:Nat->List A->X}{y:List A->Y}{F:B->List A}{L:List B}{c:Nat}(hc:∀b∈L,(F b).length<=c)
  (h:∀i b out,L[i]?=some b->out.length<=c*i->step (f i out)=some (.inl (f (i+1) (out++F b))))
  (g:∀out,step (f L.length out)=some (.inr (y out))) {N:Nat} (a:L.length<N):aw step N (f 0 [])=some (y (L.flatMap F)):=by
 have j:∀(r i:Nat) (out:List A),i+r=L.length->out.length<=c*i->∀N,r<N->aw step N (f i out)=some (y (out++(L.drop i).flatMap F)):=by
  intro r
  induction r with
  | zero=>
   intro i out hi d N a;obtain⟨N,rfl⟩:∃q,N=q+1:=⟨N - 1,by omega⟩;obtain rfl:i=L.length:=by omega
   rw[aw,g];simp
  | succ r ih=>
   intro i out hi d N a;obtain⟨N,rfl⟩:∃q,N=q+1:=⟨N - 1,by omega⟩;have e:L[i]?=some L[i]:=bj (by omega);rw[aw,h i L[i] out e d];show aw step N _=_;have k:=hc L[i] (List.getElem_mem _);rw[ih (i+1) _ (by omega) (by rw[gv,Nat.mul_add];omega) N (by omega),pF (show i<L.length by omega),jY,rU]
 have:=j L.length 0 [] (by omega) (by simp) N a;simpa using this
def Lt(d:aa)(L:Nat)(h:L<=31):(pV (fitN d 31)).filter (λk=>decide (k<=(L:Int)))=pV ((List.range' 1 L).filter (agr d)):=by
 have hs:List.range' 1 31=List.range' 1 L++List.range' (1+L) (31 - L):=by
  have:=List.range'_append_1 (s:=1) (m:=L) (n:=31 - L);rw[this,show L+(31 - L)=31 by omega]
 unfold fitN pV;rw[hs,EG,zD,EG];have c:(List.map (λk:Nat=>(k:Int)) (List.filter (agr d) (List.range' 1 L))).filter (λk=>decide (k<=(L:Int)))=List.map (λk:Nat=>(k:Int)) (List.filter (agr d) (List.range' 1 L)):=by
  rw[List.filter_eq_self];intro k b;obtain⟨j,a,rfl⟩:=da.1 b;have:=oD.1 (jm.1 a).1;exact au (by omega)
 have e:(List.map (λk:Nat=>(k:Int)) (List.filter (agr d) (List.range' (1+L) (31 - L)))).filter (λk=>decide (k<=(L:Int)))=[]:=by
  rw[List.filter_eq_nil_iff];intro k b;obtain⟨j,a,rfl⟩:=da.1 b;have:=oD.1 (jm.1 a).1;simp only[cA];omega
 rw[c,e,vv]
def BP(s:aa)(g:Nat):(fitN s g).length<=g:=by
 have:=CW (agr s) (List.range' 1 g);rw[List.length_range']at this;exact this
def B7(d:aa):(dayI d).length<=31:=by
 unfold dayI;split
 ·simp
 ·rw[yv];exact BP d 31
def BV(m:aa):(monI m).length<=12:=by
 unfold monI;split
 ·simp
 ·split
  ·simp
  ·rw[yv];exact BP m 12
def Dv(d:aa)(y a:Int):(qR d y a).length<=31:=by
 unfold qR;rw[FR];exact ow (CW _ _) (B7 d)
def EM(y a:Int):qR [] y a=[(y,a,0)]:=rfl
def Dz{d:aa}(h:d≠[])(y a:Int):qR d y a=((List.range' 1 (lenI y a).toNat).filter (agr d)).map λk:Nat=>(y,a,(k:Int)):=by
 have b:=gG y a;unfold qR dayI re;rw[ab h,ab h];have:=Lt d (lenI y a).toNat (by omega);rw[show(((lenI y a).toNat:Nat):Int)=lenI y a by omega]at this;rw[this,pV,sA];rfl
def DI (n:Nat) (z:100<n) (g l:Bool) (dg:aa) (x q:Int) (m d:aa) (k0 k1 k2 y:Int):
  iZ n g l dg x q m d k0 k1 k2 y=some (rc m d y):=by
 have v:=BV m;unfold iZ;rw [DN n z];have:=Gw (step:=dw n) (f:=λi out=>(y,(i:Int),g,l,dg,x,q,m,d,k0,k1,k2,monI m,out)) (y:=λo=>o) (F:=qR d y) (L:=monI m) (c:=31) (λb _=>Dv d y b)
  (λi h out hi D=>by
   have a:i<(monI m).length:=(lu.1 hi).1;have t:wrap .i64 ((i:Int)+1)=((i+1:Nat):Int):=by rw [wrap_i64 _ (by omega) (by omega)];omega
   unfold dw;simp only [d4,d8,t];rw [au (show (i:Int)<(((monI m).length:Nat):Int) by omega),cK a];by_cases s:d=[]
   ·subst s;rw [EM];simp only [ob,hi,am,room (show out.length<=60000000 by omega)];rfl
   ·rw [dZ s];have B:=gG y h;have r:=F4 (step:=dr n) (f:=λj o=>(y,(i:Int),((j+1:Nat):Int),g,l,dg,x,q,m,d,k0,k1,k2,monI m,o)) (y:=λo=>(y,(i:Int),g,l,dg,x,q,m,d,k0,k1,k2,monI m,o)) (p:=agr d) (e:=λk=>(y,h,(k:Int))) (g:=(lenI y h).toNat) out
     (λj o C A=>by
      have u:wrap .i64 (((j+1:Nat):Int)+1)=((j+1+1:Nat):Int):=by rw [wrap_i64 _ (by omega) (by omega)];omega
      unfold dr;simp only [d4,d8,u,cK a,ob,hi,xb];rw [au (show ((j+1:Nat):Int)<=lenI y h by omega),qz n d (j+1) (by omega),room (show o.length<=60000000 by omega)];by_cases hp:agr d (j+1)=true
      ·rw [ad hp,ad hp];rfl
      ·rw [ab hp,ab hp];rfl)
     (λo=>by
      unfold dr;simp only [d4,d8,cK a,ob,hi,xb];rw [ar (show ¬(((lenI y h).toNat+1:Nat):Int)<=lenI y h by omega)];rfl)
     (N:=n) (by omega)
    have hin':aw (dr n) n (y,(i:Int),1,g,l,dg,x,q,m,d,k0,k1,k2,monI m,out)=_:=r;simp only [am,af];rw [hin',Dz s];simp only [ob,d4,d8,t])
  (λout=>by
   unfold dw;simp only [d4,d8];rw [ar (show ¬(((monI m).length:Nat):Int)<(((monI m).length:Nat):Int) by omega)];rfl)
  (N:=n) (by omega)
 have w:aw (dw n) n (y,0,g,l,dg,x,q,m,d,k0,k1,k2,monI m,([]:List (Int×Int×Int)))=_:=this;simp only [ob];rw [w];rfl
def MV{a b c e:UInt8}(l:cD a=true\/a=88)(j:cD b=true\/b=88)(hc:cD c=true\/c=88)(k:cD e=true\/e=88)(w:Nat):
  mtk [a,b,c,e] 4 w=Mk.ag [e,c,b,a] (w:Int):=by
 have one:∀(z:UInt8) (v:Nat),(decide (z=88)||decide (z.toNat=48+v%10))=(decide (z=88)||decide (Mk.dv z=(v:Int)%10)):=by
  intro z v;have:(z.toNat=48+v%10)↔(Mk.dv z=(v:Int)%10):=by unfold Mk.dv;omega
  rw[tO.2 this]
 have d:∀v:Nat,(v:Int) / 10=((v / 10:Nat):Int):=λv=>by omega
 show((decide (e=88)||decide (e.toNat=48+w%10))&&((decide (c=88)||decide (c.toNat=48+w / 10%10))&&((decide (b=88)||decide (b.toNat=48+w / 10 / 10%10))&&((decide (a=88)||decide (a.toNat=48+w / 10 / 10 / 10%10))&&true))))
  = ((((true&&(decide (a=88)||decide (Mk.dv a=(w:Int) / 10 / 10 / 10%10)))&&(decide (b=88)||decide (Mk.dv b=(w:Int) / 10 / 10%10)))&&(decide (c=88)||decide (Mk.dv c=(w:Int) / 10%10)))&&(decide (e=88)||decide (Mk.dv e=(w:Int)%10)))
 rw[one e w,one c (w / 10),one b (w / 10 / 10),one a (w / 10 / 10 / 10),d w,d (w / 10),d (w / 10 / 10)];generalize(decide (e=88)||decide (Mk.dv e=(w:Int)%10))=f;generalize(decide (c=88)||decide (Mk.dv c=((w / 10:Nat):Int)%10))=h;generalize(decide (b=88)||decide (Mk.dv b=((w / 10 / 10:Nat):Int)%10))=i;generalize(decide (a=88)||decide (Mk.dv a=((w / 10 / 10 / 10:Nat):Int)%10))=g;cases f<;>cases h<;>cases i<;>cases g<;>rfl
def KP{c:UInt8}(h:cD c=true\/c=88):Mk.okB c=true:=by
 rcases h with h | h
 ·have h:=(fR c).1 h;unfold Mk.okB;simp only[fP,aC,cA];right
  first | omega | (obtain⟨b,a⟩:=h;constructor<;>omega)
 ·subst h;decide
def Ie{d:aa}(a:d.length=4)(h:∀c∈d,cD c=true\/c=88):Mk.chk d=0:=by
 unfold Mk.chk;have:d.all Mk.okB=true:=ch.2 λc hc=>KP (h c hc);rw[ab (by omega),ad this,ab (by rintro rfl;simp at a)]
def AL{d:aa}(g:d.length=4)(h:∀c∈d,cD c=true\/c=88)(w:Nat):Mk.hasM d (w:Int)=true↔mtk d 4 w=true/\w / 10 ^ 4=0:=by
 obtain⟨a,b,c,e,rfl⟩:∃a b c e,d=[a,b,c,e]:=by
  match d,g with
  | [a,b,c,e],_=>exact⟨a,b,c,e,rfl⟩
 rw[Mk.zn,MV (h a (by simp)) (h b (by simp)) (h c (by simp)) (h e (by simp)) w];simp only[aC,cA];show 0<=(w:Int)/\(w:Int)<10 ^ 4/\Mk.ag [e,c,b,a] (w:Int)=true↔Mk.ag [e,c,b,a] (w:Int)=true/\w / 10 ^ 4=0;have j:(10:Int) ^ 4=10000:=by decide
 have e4':(10:Nat) ^ 4=10000:=by decide
 rw[j,e4'];constructor
 ·rintro⟨_,i,f⟩;exact⟨f,by omega⟩
 ·rintro⟨f,i⟩;exact⟨by omega,by omega,f⟩
def B9{g l:Bool}{d:aa}{x q:Int}(c:okY g l d x q)(h:hasX d=true)(v:Int):inP g d x q v↔(Mk.hasM d (wOf g v)=true/\(g=true->1<=wOf g v)):=by
 obtain⟨rfl,rfl,rfl,a,j⟩:=nG c h;unfold inP;rw[As h];have p:∀k:Int,Mk.hasM d k=true->0<=k/\k<10000:=λk n=>by
  have:=(Mk.lF n).2.2.2.2;rw[a]at this;have t:(10:Int) ^ 4=10000:=by decide
  omega
 constructor
 ·rintro⟨f,i,s,o,m⟩;have:=(AL a j (wOf g v).toNat).2 m;rw[show(((wOf g v).toNat:Nat):Int)=wOf g v by omega]at this;refine⟨this,λb=>?_⟩;have u:¬wOf g v=0:=λe=>o ⟨h,b,e⟩;omega
 ·rintro⟨f,i⟩;have hr':=p _ f;have r:=(AL a j (wOf g v).toNat).1 (by rw[show(((wOf g v).toNat:Nat):Int)=wOf g v by omega];exact f);have w:v=wOf g v\/v=- wOf g v:=by
   unfold wOf;split
   ·right;omega
   ·left;rfl
  refine⟨by omega,by omega,hr'.1,?_,r⟩;rintro⟨_,b,e⟩;have:=i b;omega
def zG{g l:Bool}{d:aa}{x:Int}(a:okY g l d x 0)(b:hasX d=false)(v:Int):inP g d x 0 v↔v=(if g then -((val d x.toNat:Nat):Int)else((val d x.toNat:Nat):Int)):=by
 obtain⟨k,q,rfl,n,m⟩:=oq a b;have hs:=m.small;have j:dval 0 d*10 ^ k=val d k:=rfl;rw[j]at hs;unfold E16 at hs;unfold inP;rw[Ju b];have h:zV d (k:Int).toNat (0:Int).toNat=1:=rfl;rw[h,cf,oJ,oJ,b];unfold wOf;cases g with
 | true=>
  simp only[bc];constructor
  ·rintro⟨i,f,c,_,e⟩;omega
  ·rintro rfl;refine⟨by omega,by omega,by omega,by simp,by omega⟩
 | false=>
  simp only[cj,aG];constructor
  ·rintro⟨i,f,c,_,e⟩;omega
  ·rintro rfl;refine⟨by omega,by omega,by omega,by simp,by omega⟩
def Ai(up:Bool)(Y:Int->Prop)(v w:Int)(a:Bool):Prop:=
 (a=true->Y w/\Mk.dI up v w/\∀e,Y e->Mk.dI up v e->Mk.dI up w e)/\(a=false->∀e,Y e->¬Mk.dI up v e)
def dF(a b:Int):Mk.dI true a b↔a<=b:=Iff.rfl
def fD(a b:Int):Mk.dI false a b↔b<=a:=Iff.rfl
def I2(o:Option Int):(Mk.res o).2=0/\(∃r,o=some r/\(Mk.res o).1=r)\/(Mk.res o).2=16/\o=none/\(Mk.res o).1=0:=by
 cases o with
 | none=>exact .inr ⟨rfl,rfl,rfl⟩
 | some r=>exact .inl ⟨rfl,r,rfl,rfl⟩
def qN{m:aa}(j:Mk.chk m=0)(v a:Int)(t:0<=a):∃w f,dV 20000000 m v true a=some (w,f)/\Ai true (λe=>Mk.hasM m e=true/\a<=e) v w f/\(0<=w/\w<1000000000000000000):=by
 obtain⟨o,p,d⟩:=Mk.E8 j (cond (decide (a>v)) a v);unfold dV;rw[p];simp only[ob,am];have hc:(cond (decide (a>v)) a v)=max v a:=by
  by_cases h:a>v
  ·rw[au h];show a=_;omega
  ·rw[ar h];show v=_;omega
 rw[hc]at d;rcases I2 o with⟨g,r,rfl,c⟩ | ⟨g,rfl,c⟩
 ·refine⟨_,_,rfl,?_,?_⟩
  ·rw[g,c];obtain⟨n,s,k⟩:=d;rw[dF]at s;refine⟨λ_=>⟨⟨n,by omega⟩,?_,λe b i=>?_⟩,λh=>by cases h⟩
   ·rw[dF];omega
   ·rw[dF]at i;exact k e b.1 (by rw[dF];have:=b.2;omega)
  ·have:=(Mk.lF d.1).2.2.2.2;have l:=Mk.kW j;have hp:(10:Int) ^ m.length<=10 ^ 18:=by
    have:=iH (show 0<10 by decide) l.1
    exact_mod_cast this
   have q:(10:Int) ^ 18=1000000000000000000:=by decide
   rw[c];omega
 ·refine⟨_,_,rfl,?_,by rw[c];omega⟩;rw[g];refine⟨(λh=>by cases h),λ_ e b i=>?_⟩;rw[dF]at i;exact d e b.1 (by rw[dF];have:=b.2;omega)
def qV{m:aa}(n:Mk.chk m=0)(v a:Int)(x:0<=a):∃w f,dV 20000000 m v false a=some (w,f)/\Ai false (λe=>Mk.hasM m e=true/\a<=e) v w f/\(0<=w/\w<1000000000000000000):=by
 obtain⟨o,q,k⟩:=Mk.D2 n v;unfold dV;rw[q];simp only[ob,af];rcases I2 o with⟨i,r,rfl,g⟩ | ⟨i,rfl,g⟩
 ·rw[i,g];obtain⟨l,t,j⟩:=k;rw[fD]at t;have u:=(Mk.lF l).2.2.2.2;have p:=Mk.kW n;have hp:(10:Int) ^ m.length<=10 ^ 18:=by
   have:=iH (show 0<10 by decide) p.1
   exact_mod_cast this
  have s:(10:Int) ^ 18=1000000000000000000:=by decide
  refine⟨_,_,rfl,?_,by omega⟩;by_cases c:r>=a
  ·rw[au c];refine⟨λ_=>⟨⟨l,by omega⟩,by rw[fD];omega,λe b d=>j e b.1 d⟩,λh=>by cases h⟩
  ·rw[ar c];refine⟨(λh=>by cases h),λ_ e b d=>?_⟩;have:=j e b.1 d;rw[fD]at this;have:=b.2;omega
 ·rw[i,g];refine⟨_,_,rfl,?_,by omega⟩;refine⟨(λh=>by cases h),λ_ e b d=>k e b.1 d⟩
def FN{g l:Bool}{dg:aa}{x:Int}(j:okY g l dg x 0)(m d:aa)(k0 k1 k2:Int)(v:Int)(J:-9223372036854775808<=v/\v<9223372036854775808)(up:Bool)(H E:List Int):
  ∃w f,bO 20000000 g l dg x 0 m d k0 k1 k2 v up H E=some (w,f)/\Ai up (inP g dg x 0) v w f:=by
 have G:=ko j;unfold bO;rw[pD];simp only[ob];cases u:hasX dg with
 | false=>
  have c:=zG j u;rw[wk 20000000 g l dg x 0 (by omega) (by omega),ad ⟨j,u⟩];simp only[jc,am];generalize(if g then -((val dg x.toNat:Nat):Int)else((val dg x.toNat:Nat):Int))=w at *;cases up with
  | true=>
   by_cases h:w>=v
   ·refine⟨w,true,?_,?_⟩
    ·simp only[au h,am]
    ·refine⟨λ_=>⟨(c w).2 rfl,h,λe b _=>?_⟩,λh=>by cases h⟩;rw[(c e).1 b];exact pX _
   ·refine⟨w,false,?_,?_⟩
    ·simp only[ar h,am,af,dD]
    ·refine⟨(λh=>by cases h),λ_ e b n=>?_⟩;rw[(c e).1 b,dF]at n;omega
  | false=>
   by_cases h:w<=v
   ·refine⟨w,true,?_,?_⟩
    ·simp only[au h,am,af,jc]
    ·refine⟨λ_=>⟨(c w).2 rfl,h,λe b _=>?_⟩,λh=>by cases h⟩;rw[(c e).1 b];exact pX _
   ·refine⟨w,false,?_,?_⟩
    ·simp only[ar h,am,af,jc]
    ·refine⟨(λh=>by cases h),λ_ e b n=>?_⟩;rw[(c e).1 b,fD]at n;omega
 | true=>
  have c:=B9 j u;obtain⟨rfl,rfl,_,B,D⟩:=nG j u;have y:=Ie B D;simp only[dD,af];cases g with
  | false=>
   simp only[jc,am];have q:∀w f,Ai up (λe=>Mk.hasM dg e=true/\0<=e) v w f->Ai up (inP false dg 0 0) v w f:=λw f h=>by
    have a:∀e,(Mk.hasM dg e=true/\0<=e)↔inP false dg 0 0 e:=λe=>by
     rw[c e];constructor
     ·rintro⟨i,_⟩;exact⟨i,λh=>by cases h⟩
     ·rintro⟨i,_⟩;exact⟨i,(Mk.lF i).2.2.2.2.1⟩
    refine⟨λk=>?_,λk e b=>h.2 k e ((a e).2 b)⟩;obtain⟨r,s,t⟩:=h.1 k;exact⟨(a w).1 r,s,λe b=>t e ((a e).2 b)⟩
   cases up with
   | true=>
    obtain⟨w,f,i,p,_⟩:=qN y v 0 (by omega);exact⟨w,f,by rw[i],q w f p⟩
   | false=>
    obtain⟨w,f,i,p,_⟩:=qV y v 0 (by omega);exact⟨w,f,by rw[i],q w f p⟩
  | true=>
   simp only[dD,af];have hc:wrap .i64 (0 - (cond (decide (((-9223372036854775807):Int)>v)) (-9223372036854775807) v))=min (-v) 9223372036854775807:=by
    by_cases h:((-9223372036854775807):Int)>v
    ·rw[au h,am,wrap_i64 _ (by omega) (by omega)];omega
    ·rw[ar h,af,wrap_i64 _ (by omega) (by omega)];omega
   rw[hc];have A:∀e,Mk.hasM dg e=true->0<=e/\e<10000:=λe b=>by
    have:=(Mk.lF b).2.2.2.2;rw[B]at this;have I:(10:Int) ^ 4=10000:=by decide
    omega
   have a:∀e,inP true dg 0 0 e↔(Mk.hasM dg (-e)=true/\1<=-e):=λe=>by
    rw[c e];exact⟨λh=>⟨h.1,h.2 rfl⟩,λh=>⟨h.1,λ_=>h.2⟩⟩
   have C:∀w:Int,0<=w/\w<1000000000000000000->wrap .i64 (0 - w)=-w:=λw h=>by rw[wrap_i64 _ (by omega) (by omega)];omega
   cases up with
   | true=>
    obtain⟨w,f,i,p,z⟩:=qV y (min (-v) 9223372036854775807) 1 (by omega);refine⟨-w,f,by rw[dD,i];simp only[C w z],?_,?_⟩
    ·intro k;obtain⟨r,s,t⟩:=p.1 k;rw[fD]at s;refine⟨(a _).2 (by rw[Int.neg_neg];exact r),by rw[dF];omega,λe b n=>?_⟩;rw[dF]at n;have o:=(a e).1 b;have:=t (-e) o (by rw[fD];have:=A _ o.1;omega);rw[fD]at this;rw[dF];omega
    ·intro k e b n;rw[dF]at n;have o:=(a e).1 b;exact p.2 k (-e) o (by rw[fD];have:=A _ o.1;omega)
   | false=>
    obtain⟨w,f,i,p,z⟩:=qN y (min (-v) 9223372036854775807) 1 (by omega);refine⟨-w,f,by rw[jc,i];simp only[C w z],?_,?_⟩
    ·intro k;obtain⟨r,s,t⟩:=p.1 k;rw[dF]at s;have F:=A _ r.1;refine⟨(a _).2 (by rw[Int.neg_neg];exact r),by rw[fD];omega,λe b n=>?_⟩;rw[fD]at n;have o:=(a e).1 b;have:=t (-e) o (by rw[dF];omega);rw[dF]at this;rw[fD];omega
    ·intro k e b n;rw[fD]at n;have o:=(a e).1 b;exact p.2 k (-e) o (by rw[dF];omega)
def pO{X Y A:Type}{step:X->Option (X⊕Y)}{f:Nat->X}{L:List A}{G:A->Option Y}{e:Y}
  (h:∀i a,L[i]?=some a->step (f i)=some ((G a).elim (.inl (f (i+1))) Sum.inr)) (d:step (f L.length)=some (.inr e)) {N:Nat} (b:L.length<N):
  aw step N (f 0)=some ((L.findSome? G).getD e):=by
 have g:∀(r i:Nat),i+r=L.length->∀N,r<N->aw step N (f i)=some (((L.drop i).findSome? G).getD e):=by
  intro r
  induction r with
  | zero=>
   intro i hi N b;obtain⟨N,rfl⟩:∃q,N=q+1:=⟨N - 1,by omega⟩;obtain rfl:i=L.length:=by omega
   rw[aw,d];simp
  | succ r ih=>
   intro i hi N b;obtain⟨N,rfl⟩:∃q,N=q+1:=⟨N - 1,by omega⟩;have c:L[i]?=some L[i]:=bj (by omega);rw[aw,h i L[i] c,pF (show i<L.length by omega),yK];cases j:G L[i]with
   | some y=>rfl
   | none=>exact ih (i+1) (by omega) N (by omega)
 have:=g L.length 0 (by omega) N b;simpa using this
def ahd(up:Bool)(a b:Int):Bool:=cond up (decide (a<b)) (decide (a>b))
def Bo(n:Nat)(a b:Int)(up:Bool):bW n a b up=some (ahd up a b):=by
 unfold bW ahd;cases up
 ·rfl
 ·simp only[am,dD,af];cases decide (a<b)<;>rfl
def wB(up a:Bool)(d:aa)(b most k:Int):Bool:=decide (k<=most)&&!(a&&(!(d==([]:aa))&&ahd up k b))
def GR(up:Bool)(m:aa)(b a y c:Int):Bool:=(y==b)&&(!(m==([]:aa))&&ahd up c a)
def CX(m:aa)(b a y c:Int):Bool:=(y==b)&&((m==([]:aa))||(c==a))
def yT(up:Bool)(m d:aa)(c b f y:Int)(e:List Int)(a:Int):Option (Int×Int×Int):=
 if GR up m c b y a then none else(e.find? (wB up (CX m c b y a) d f (re d y a))).map λk=>(y,a,k)
def zk(up:Bool)(m d:aa)(f a e:Int)(c b:List Int)(y:Int):Option (Int×Int×Int):=c.findSome? (yT up m d f a e y b)
def D7(d:aa)(b:List Int):Prop:=b.length<=31/\(d≠[]->∀a∈b,1<=a/\a<=12)
def GV(n:Nat)(g l:Bool)(dg:aa)(x q:Int)(m d:aa)(k0 k1 k2:Int){y:Int}(hy:cV y){a:Int}(c:d≠[]->1<=a/\a<=12)(f e:List Int):
  dC n g l dg x q m d k0 k1 k2 y a f e=some (re d y a):=by
 unfold dC re;by_cases b:d=[]
 ·subst b;rfl
 ·rw[dZ b,ab b];have:=c b;obtain⟨k,rfl⟩:∃k:Nat,a=(k:Int):=⟨a.toNat,by omega⟩;rw[af,Gf n hy (by omega) (by omega)];rfl
def JR{A B Y:Type}(L:List A)(p:A->Bool)(F:A->B)(J:B->Y)(e:Y):(L.findSome? λa=>if p a then some (J (F a))else none).getD e=((L.find? p).map F).elim e J:=by
 induction L with
 | nil=>rfl
 | cons a L ih=>
  rw[List.find?_cons,yK];cases h:p a
  ·simpa using ih
  ·simp
def Ny{A B Y:Type}(L:List A)(G:A->Option B)(J:B->Y)(e:Y):(L.findSome? λa=>(G a).map J).getD e=(L.findSome? G).elim e J:=by
 induction L with
 | nil=>rfl
 | cons a L ih=>
  rw[yK,yK];cases h:G a
  ·simpa using ih
  ·simp
def Hr(n:Nat)(s y e:Int)(a:Bool)(most p r:Int)(u b:List Int)(g l:Bool)(dg:aa)(x q:Int)(m d:aa)(k0 k1 k2 v j c:Int)(up:Bool)(o h rd:Int)(i:Nat)(k:Int)(hi:b[i]?=some k)(w:i<1000):
  bm n (s,y,e,a,most,p,r,((b.length:Nat):Int),(i:Int),u,b,g,l,dg,x,q,m,d,k0,k1,k2,v,j,c,up,o,h,rd)=some ((if wB up a d c most k then some (.inl (true,y,e,k))else none).elim (.inl (s,y,e,a,most,p,r,((b.length:Nat):Int),((i+1:Nat):Int),u,b,g,l,dg,x,q,m,d,k0,k1,k2,v,j,c,up,o,h,rd)) Sum.inr):=by
 have f:i<b.length:=(lu.1 hi).1;have t:wrap .i64 ((i:Int)+1)=((i+1:Nat):Int):=by rw[wrap_i64 _ (by omega) (by omega)];omega
 unfold bm fG wB;simp only[d4,d8,d16,cK f,hi,ob,t,Bo];rw[au (show(i:Int)<((b.length:Nat):Int)by omega)];simp only[am];cases decide (k<=most)<;>cases a<;>cases(d==([]:aa))<;>cases ahd up k c<;>simp only[dD,jc,am,af,t]<;>rfl
def KO(n:Nat)(s y p:Int)(b:Bool)(most h i:Int)(j a:List Int)(g l:Bool)(dg:aa)(x q:Int)(m d:aa)(k0 k1 k2 o e k:Int)(up:Bool)(f c rd:Int):
  bm n (s,y,p,b,most,h,i,((a.length:Nat):Int),((a.length:Nat):Int),j,a,g,l,dg,x,q,m,d,k0,k1,k2,o,e,k,up,f,c,rd)=some (.inr (.inr (s,y,h,i,j,a,g,l,dg,x,q,m,d,k0,k1,k2,o,e,k,up,f,c,rd))):=by
 unfold bm;simp only[d4,d8,d16];rw[ar (show¬((a.length:Nat):Int)<((a.length:Nat):Int)by omega)];rfl
def JV (n:Nat) (B:1000<n) (s y h:Int) (a:Bool) (most r t:Int) (u b:List Int) (g l:Bool) (dg:aa) (x q:Int) (m d:aa) (k0 k1 k2 v o c:Int) (up:Bool) (p j rd:Int) (A:b.length<=31):
  aw (bm n) n (s,y,h,a,most,r,t,((b.length:Nat):Int),0,u,b,g,l,dg,x,q,m,d,k0,k1,k2,v,o,c,up,p,j,rd)=some (((b.find? (wB up a d c most)).map (λk=>(y,h,k))).elim (.inr (s,y,r,t,u,b,g,l,dg,x,q,m,d,k0,k1,k2,v,o,c,up,p,j,rd)) (λz=>.inl (true,z))):=by
 have:=pO (step:=bm n) (f:=λi=>(s,y,h,a,most,r,t,((b.length:Nat):Int),(i:Int),u,b,g,l,dg,x,q,m,d,k0,k1,k2,v,o,c,up,p,j,rd)) (L:=b) (G:=λk=>if wB up a d c most k then some (.inl (true,y,h,k)) else none) (e:=.inr (s,y,r,t,u,b,g,l,dg,x,q,m,d,k0,k1,k2,v,o,c,up,p,j,rd))
  (λi k hi=>by
   have w:i<b.length:=(lu.1 hi).1;exact Hr n s y h a most r t u b g l dg x q m d k0 k1 k2 v o c up p j rd i k hi (by omega))
  (KO n s y h a most r t u b g l dg x q m d k0 k1 k2 v o c up p j rd) (N:=n) (by omega)
 exact this.trans (fc some (JR b (wB up a d c most) (λk=>(y,h,k)) (λz=>Sum.inl (true,z)) _))
def Ht(n:Nat)(E:1000<n)(s y:Int)(hy:cV y)(o p:List Int)(g l:Bool)(dg:aa)(x q:Int)(m d:aa)(k0 k1 k2 e j r:Int)(up:Bool)(u t rd:Int)(A:D7 d o)(D:p.length<=31)(i:Nat)(f:Int)(hi:o[i]?=some f):
  bM n (s,y,((o.length:Nat):Int),(i:Int),o,p,g,l,dg,x,q,m,d,k0,k1,k2,e,j,r,up,u,t,rd)=some (((yT up m d e j r y p f).map (λz=>(.inl (true,z):(Bool×Int×Int×Int)⊕_))).elim (.inl (s,y,((o.length:Nat):Int),((i+1:Nat):Int),o,p,g,l,dg,x,q,m,d,k0,k1,k2,e,j,r,up,u,t,rd)) Sum.inr):=by
 have w:i<o.length:=(lu.1 hi).1;have C:=A.1;have B:wrap .i64 ((i:Int)+1)=((i+1:Nat):Int):=by rw[wrap_i64 _ (by omega) (by omega)];omega
 have v:d≠[]->1<=f/\f<=12:=λh=>A.2 h f (dY hi);have j20:∀a b:Int,dH n s y f (y==e) a b o p g l dg x q m d k0 k1 k2 e j r up u t rd=some (s,y,f,(y==e),a,b,GR up m e j y f,o,p,g,l,dg,x,q,m,d,k0,k1,k2,e,j,r,up,u,t,rd):=by
  intro a b;unfold dH GR;simp only[Bo,ob];cases(y==e)<;>cases(m==([]:aa))<;>rfl
 have j23:∀a b c:Int,dG n s y f (y==e) a b c o p g l dg x q m d k0 k1 k2 e j r up u t rd=some (s,y,f,CX m e j y f,a,b,c,o,p,g,l,dg,x,q,m,d,k0,k1,k2,e,j,r,up,u,t,rd):=by
  intro a b c;unfold dG CX;cases(y==e)<;>cases(m==([]:aa))<;>rfl
 unfold bM fq yT;simp only[d4,d8,d16,cK w,hi,ob,j20];rw[au (show(i:Int)<((o.length:Nat):Int)by omega)];simp only[am];cases hs:GR up m e j y f with
 | true=>simp only[am,bc,fY,B];rfl
 | false=>
  simp only[af,cj,aG,GV n g l dg x q m d k0 k1 k2 hy v,j23,JV n E s y f (CX m e j y f) (re d y f) _ _ o p g l dg x q m d k0 k1 k2 e j r up u t rd D];cases p.find? (wB up (CX m e j y f) d r (re d y f))with
  | some k=>rfl
  | none=>simp only[fY,Option.elim_none,B]
def J0 (n:Nat) (v:1000<n) (s y:Int) (hy:cV y) (a b:List Int) (g l:Bool) (dg:aa) (x q:Int) (m d:aa) (k0 k1 k2 j c h:Int) (up:Bool) (o k rd:Int) (r:D7 d a) (u:b.length<=31):
  aw (bM n) n (s,y,((a.length:Nat):Int),0,a,b,g,l,dg,x,q,m,d,k0,k1,k2,j,c,h,up,o,k,rd)=some ((zk up m d j c h a b y).elim (.inr (s,y,a,b,g,l,dg,x,q,m,d,k0,k1,k2,j,c,h,up,o,k,rd)) (λz=>.inl (true,z))):=by
 have t:=r.1;have:=pO (step:=bM n) (f:=λi=>(s,y,((a.length:Nat):Int),(i:Int),a,b,g,l,dg,x,q,m,d,k0,k1,k2,j,c,h,up,o,k,rd)) (L:=a) (G:=λp=>(yT up m d j c h y b p).map (λz=>(.inl (true,z):(Bool×Int×Int×Int)⊕_))) (e:=.inr (s,y,a,b,g,l,dg,x,q,m,d,k0,k1,k2,j,c,h,up,o,k,rd))
  (λi p hi=>Ht n v s y hy a b g l dg x q m d k0 k1 k2 j c h up o k rd r u i p hi)
  (by
   unfold bM;simp only [d4,d8,d16];rw [ar (show ¬((a.length:Nat):Int)<((a.length:Nat):Int) by omega)];rfl)
  (N:=n) (by omega)
 exact this.trans (fc some (Ny a (yT up m d j c h y b) (λz=>Sum.inl (true,z)) _))
def Ik(n:Nat)(o:1000<n)(s y:Int)(hy:cV y)(b a:List Int)(g l:Bool)(dg:aa)(x q:Int)(m d:aa)(k0 k1 k2 f c e:Int)(up:Bool)(i h rd:Int)(k:D7 d b)(j:a.length<=31):
  cg n (s,y,true,b,a,g,l,dg,x,q,m,d,k0,k1,k2,f,c,e,up,i,h,rd)=(zk up m d f c e b a y).elim (ob (bO n g l dg x q m d k0 k1 k2 (wrap .i64 (y+s)) up b a) λr=>some (.inl (s,r.1,r.2,b,a,g,l,dg,x,q,m,d,k0,k1,k2,f,c,e,up,i,h,rd))) (λz=>some (.inr (.inl (true,z)))):=by
 unfold cg;simp only[d4,d8,d16,am,ob,J0 n o s y hy b a g l dg x q m d k0 k1 k2 f c e up i h rd k j];cases zk up m d f c e b a y<;>rfl
def B6(up:Bool)(Y:Int->Prop)(F:Int->Option (Int×Int×Int))(v:Int):Option (Int×Int×Int)->Prop
 | some z=>∃e,Y e/\Mk.dI up v e/\F e=some z/\∀a,Y a->Mk.dI up v a->¬Mk.dI up e a->F a=none
 | none=>∀e,Y e->Mk.dI up v e->F e=none
def Dt{X:Type}{step:X->Option (X⊕((Bool×Int×Int×Int)⊕(Int×Int×Int)))}{st:Int->Bool->X}{F:Int->Option (Int×Int×Int)}{Y:Int->Prop}{up:Bool}{s lo hi:Int}{E:Int×Int×Int}{fy:Int->Option (Int×Bool)}
  (hs:s=if up then 1 else -1) (D:∀e,Y e->lo<=e/\e<=hi) (Q:-10000000000000000<=lo) (d:hi<=10000000000000000)
  (b:∀y,Y y->step (st y true)=(F y).elim (ob (fy (wrap .i64 (y+s))) λr=>some (.inl (st r.1 r.2))) (λz=>some (.inr (.inl (true,z)))))
  (c:∀y,step (st y false)=some (.inr (.inr E)))
  (u:∀v,-9223372036854775808<=v/\v<9223372036854775808->∃w f,fy v=some (w,f)/\Ai up Y v w f):
  ∀(r:Nat) (v y:Int) (f:Bool),Ai up Y v y f->(f=true->(if up then hi - y else y - lo)<(r:Int))->∀N,r<N->
   ∃o,aw step N (st y f)=some (o.elim (.inr E) (λz=>.inl (true,z)))/\B6 up Y F v o:=by
 intro r
 induction r with
 | zero=>
  intro v y f m p N K;obtain⟨N,rfl⟩:∃q,N=q+1:=⟨N - 1,by omega⟩;cases f with
  | true=>
   obtain⟨g,_,_⟩:=m.1 rfl;have:=D y g;have:=p rfl;cases up<;>simp at this<;>omega
  | false=>
   refine⟨none,by rw[aw,c];rfl,λe j k=>absurd k (m.2 rfl e j)⟩
 | succ r ih=>
  intro v y f m p N K;obtain⟨N,rfl⟩:∃q,N=q+1:=⟨N - 1,by omega⟩;cases f with
  | false=>
   refine⟨none,by rw[aw,c];rfl,λe j k=>absurd k (m.2 rfl e j)⟩
  | true=>
   obtain⟨g,t,C⟩:=m.1 rfl;have R:=D y g;cases n:F y with
   | some z=>
    refine⟨some z,?_,y,g,t,n,λa d l i=>absurd (C a d l) i⟩;rw[aw,b y g,n];rfl
   | none=>
    have M:wrap .i64 (y+s)=y+s:=by
     have:-1<=s/\s<=1:=by rw[hs];cases up<;>simp
     exact wrap_i64 _ (by omega) (by omega)
    obtain⟨w,H,I,x⟩:=u (y+s) (by
     have:-1<=s/\s<=1:=by rw[hs];cases up<;>simp
     omega)
    have hstep':step (st y true)=some (.inl (st w H)):=by
     rw[b y g,n,M];show ob (fy (y+s)) _=_;rw[I];rfl
    obtain⟨o,L,G⟩:=ih (y+s) w H x (λJ=>by
     obtain⟨P,A,_⟩:=x.1 J;have:=p rfl;cases up
     ·rw[fD]at A;simp only[cj,aG]at hs this ⊢;omega
     ·rw[dF]at A;simp only[bc]at hs this ⊢;omega) N (by omega)
    refine⟨o,by rw[aw,hstep'];exact L,?_⟩;have split:∀a,Y a->Mk.dI up v a->a=y\/Mk.dI up (y+s) a:=λa d l=>by
     have i:=C a d l;cases up
     ·rw[fD]at i ⊢;simp only[cj,aG]at hs;omega
     ·rw[dF]at i ⊢;simp only[bc]at hs;omega
    cases o with
    | none=>
     intro e j k;rcases split e j k with rfl | h
     ·exact n
     ·exact G e j h
    | some z=>
     obtain⟨e,O,B,c3,c4⟩:=G;refine⟨e,O,?_,c3,λa d l i=>?_⟩
     ·cases up
      ·rw[fD]at B t ⊢;simp only[cj,aG]at hs;omega
      ·rw[dF]at B t ⊢;simp only[bc]at hs;omega
     ·rcases split a d l with rfl | h
      ·exact n
      ·exact c4 a d h i
def uE{g l:Bool}{dg:aa}{x:Int}(c:okY g l dg x 0):∃lo hi:Int,(∀e,inP g dg x 0 e->lo<=e/\e<=hi)/\hi - lo<=10000/\-10000000000000000<=lo/\hi<=10000000000000000:=by
 cases f:hasX dg with
 | false=>
  have a:=zG c f;by_cases d:-10000000000000000<=(if g then -((val dg x.toNat:Nat):Int)else((val dg x.toNat:Nat):Int))/\(if g then -((val dg x.toNat:Nat):Int)else((val dg x.toNat:Nat):Int))<=10000000000000000
  ·refine⟨_,_,λe b=>?_,?_,d.1,d.2⟩
   ·rw[(a e).1 b];exact⟨pX _,pX _⟩
   ·omega
  ·refine⟨0,0,λe b=>?_,by omega,by omega,by omega⟩;exfalso;have:=(a e).1 b;unfold inP at b;exact d ⟨by rw[<-this];exact b.1,by rw[<-this];exact b.2.1⟩
 | true=>
  have a:=B9 c f;obtain⟨_,_,_,i,j⟩:=nG c f;refine⟨if g then -9999 else 0,if g then 0 else 9999,λe b=>?_,by cases g<;>simp,by cases g<;>simp,by cases g<;>simp⟩;have h:=((a e).1 b).1;have:=(Mk.lF h).2.2.2.2;rw[i]at this;have k:(10:Int) ^ 4=10000:=by decide
  unfold wOf at this;cases g
  ·simp at this ⊢;omega
  ·simp at this ⊢;omega
def vB{g:Bool}{dg:aa}{x q e:Int}(h:inP g dg x q e):cV e:=⟨h.1,h.2.1⟩
def C6{g l:Bool}{dg:aa}{x:Int}(e:okY g l dg x 0)(m d:aa)(k0 k1 k2:Int)(a h i:Int)(j:-9223372036854775808<=a/\a<9223372036854775808)(c b:List Int)(C:D7 d c)(r:b.length<=31):
  ∃o,ge 20000000 g l dg x 0 m d k0 k1 k2 a h i true c b=some (o.elim (0,0,0,false) λz=>(z.1,z.2.1,z.2.2,true))/\B6 true (inP g dg x 0) (zk true m d a h i c b) a o:=by
 obtain⟨lo,hi,q,G,k,n⟩:=uE e;obtain⟨w,f,t,p⟩:=FN e m d k0 k1 k2 a j true c b;obtain⟨o,B,D⟩:=Dt (step:=cg 20000000) (st:=λy f=>(1,y,f,c,b,g,l,dg,x,0,m,d,k0,k1,k2,a,h,i,true,0,0,0)) (F:=zk true m d a h i c b) (Y:=inP g dg x 0) (up:=true) (s:=1) (lo:=lo) (hi:=hi) (E:=(0,0,0)) (fy:=λv=>bO 20000000 g l dg x 0 m d k0 k1 k2 v true c b)
  rfl q k n
  (λy hy=>Ik 20000000 (by omega) 1 y (vB hy) c b g l dg x 0 m d k0 k1 k2 a h i true 0 0 0 C r)
  (λy=>rfl)
  (λv A=>FN e m d k0 k1 k2 v A true c b)
  10002 a w f p (λu=>by have:=q w (p.1 u).1;simp;omega) 20000000 (by omega)
 refine⟨o,?_,D⟩;unfold ge gi;simp only[dD,af,ob,d4,d8,d16,t];have i1':aw (cg 20000000) 20000000 (1,w,f,c,b,g,l,dg,x,0,m,d,k0,k1,k2,a,h,i,true,0,0,0)=_:=B;rw[i1'];cases o<;>rfl
def AI(m d:aa)(l o:Int){g e:Int}(h:e≠g)(n f:List Int):zk true m d g l o n f e=none↔(n.flatMap λa=>(f.filter λk=>decide (k<=re d e a)).map λk=>(e,a,k))=[]:=by
 have j:(e==g)=false:=aN.2 h;unfold zk;rw[Jn,List.flatMap_eq_nil_iff];have:∀a,yT true m d g l o e f a=none↔((f.filter λk=>decide (k<=re d e a)).map λk=>(e,a,k))=[]:=by
  intro a;unfold yT GR CX;rw[j];simp only[BM,cj,aG,Option.map_eq_none_iff,List.find?_eq_none,List.map_eq_nil_iff,List.filter_eq_nil_iff];constructor
  ·intro b k i;have:=b k i;unfold wB at this;simpa using this
  ·intro b k i;have:=b k i;unfold wB;simpa using this
 exact⟨λb a c=>(this a).1 (b a c),λb a c=>(this a).2 (b a c)⟩
def hasF(g:Bool)(dg:aa)(x:Int)(m d:aa):Prop:=∃e,inP g dg x 0 e/\rc m d e≠[]
open Classical in
noncomputable def chkF(g l:Bool)(dg:aa)(x q:Int)(m d:aa)(k0 k1 k2:Int):Int:=
 if chkD g l dg x q m d k0 k1 k2=0/\d≠[]/\¬hasF g dg x m d then 8 else chkD g l dg x q m d k0 k1 k2
def lK{g l:Bool}{dg:aa}{x q:Int}{m d:aa}{k0 k1 k2:Int}(h:chkD g l dg x q m d k0 k1 k2=0):okY g l dg x q/\(m=[]\/m.length=2)/\(d=[]\/d.length=2)/\(0<q->m=[])/\(d≠[]->m≠[]/\sea m=0):=by
 obtain⟨a,k,c3,c4⟩:=ym h;unfold yrD at a;by_cases b:okY g l dg x q
 ·rw[ad b]at a;refine⟨b,?_,?_,λj=>?_,λf=>?_⟩
  ·rcases k with h | h | h
   ·exact .inl h
   ·exact .inr (zP h).1
   ·exact .inr (kD (by omega) h).1
  ·rcases c3 with h | ⟨_,_,h⟩
   ·exact .inl h
   ·exact .inr (kD (by omega) h).1
  ·unfold yrB at a;simp only[aC,jd]at a;have:=a.1;rw[au j,kP]at this;by_cases c:m=[]
   ·exact c
   ·rw[dZ c]at this;cases this
  ·rcases c3 with h | ⟨i,e,_⟩
   ·exact absurd h f
   ·exact⟨i,e⟩
 ·rw[ab b]at a;cases a
def G9{g l:Bool}{dg:aa}{x q:Int}(h:okY g l dg x q):0<=q:=(ko h).2.2.1
def FO{m d:aa}(h:d≠[]->m≠[]/\sea m=0):D7 d (monI m):=by
 refine⟨ow (BV m) (by omega),λc g a=>?_⟩;obtain⟨e,f⟩:=h c;unfold monI at a;rw[ab e,ab (by omega)]at a;obtain⟨k,b,rfl⟩:=da.1 a;have:=oD.1 (jm.1 b).1;omega
def vH{g l:Bool}{dg:aa}{x q:Int}{m d:aa}{k0 k1 k2:Int}(n:m.length<=18)(p:dg.length<=100)(C:0<=k0)(F:0<=k1)(B:0<=k2):
  bi 20000000 g l dg x q m d k0 k1 k2=some (chkF g l dg x q m d k0 k1 k2):=by
 unfold bi chkF;rw[HH 20000000 (by omega) g l dg x q m d k0 k1 k2 n p C F B];simp only[ob];by_cases hc:chkD g l dg x q m d k0 k1 k2=0
 ·obtain⟨c,t,r,w,f⟩:=lK hc;rw[hc];simp only[eG,af];by_cases i:d=[]
  ·subst i;rw[ab (by simp)];rfl
  ·rw[dZ i,af];have k:q=0:=by
    have:=G9 c;by_cases h:0<q
    ·exact absurd (w h) (f i).1
    ·omega
   subst k;have e:=O2 20000000 (by omega) g l dg x 0 m d k0 k1 k2 t r;have s:=FO f;obtain⟨o,v,u⟩:=C6 c m d k0 k1 k2 (-9223372036854775808) 0 0 (by omega) (monI m) (dayI d) s (B7 d);have b:∀e,inP g dg x 0 e->e≠-9223372036854775808:=λe E=>by have:=vB E;unfold cV at this;omega
   have key:(∃z,o=some z)↔hasF g dg x m d:=by
    constructor
    ·rintro⟨z,rfl⟩;obtain⟨e,a,_,c3,_⟩:=u;refine⟨e,a,λD=>?_⟩;have:=(AI m d 0 0 (b e a) (monI m) (dayI d)).2 D;rw[this]at c3;cases c3
    ·rintro⟨e,a,A⟩;cases o with
     | some z=>exact⟨z,rfl⟩
     | none=>
      have:=u e a (by rw[dF];have:=vB a;unfold cV at this;omega);exact absurd ((AI m d 0 0 (b e a) (monI m) (dayI d)).1 this) A
   rw[e];by_cases j:hasF g dg x m d
   ·obtain⟨z,rfl⟩:=key.2 j;rw[ab (λh=>h.2.2 j)]
    all_goals
     simp only[d4,d8,v];rfl
   ·have y:o=none:=by
     cases o with
     | none=>rfl
     | some z=>exact absurd (key.1 ⟨z,rfl⟩) j
    subst y;rw[ad ⟨rfl,i,j⟩]
    all_goals
     simp only[d4,d8,v];rfl
 ·rw[ab (λh=>hc h.1)];have:(chkD g l dg x q m d k0 k1 k2 != 0)=true:=by simp[hc]
  rw[this];rfl
def Hg {g l:Bool} {dg:aa} {x:Int} (c:okY g l dg x 0) (m d:aa) (k0 k1 k2:Int):
  ∃r,iC 20000000 g l dg x 0 m d k0 k1 k2=some r/\(r=1/\hasF g dg x m d\/r=0/\¬hasF g dg x m d):=by
 have O:=ko c;obtain ⟨lo,hi,B,R,H,J⟩:=uE c;obtain ⟨E,I,P⟩:=zf c;have u:=G8 19999700 g l dg x 0 (by omega) c;unfold iC;rw [show (20000000:Nat)=19999700+300 from rfl,u];simp only [ob];generalize (sgn g (kJ g dg x 0)).1=a at *;generalize (sgn g (kJ g dg x 0)).2=b at *;have Q:=B a E;have hb':=B b I;have F:=λy=>Of 19999700 c y;have step:∀i y,((List.range (b - a+1).toNat).map (λj:Nat=>a+(j:Int)))[i]?=some y->i<(b - a+1).toNat/\y=a+(i:Int):=by
  intro i y h;rw [om] at h;cases v:(List.range (b - a+1).toNat)[i]? with
  | none=>rw [v] at h;cases h
  | some j=>
   rw [v] at h;have hi:=lu.1 v;obtain ⟨C,A⟩:=hi;rw [List.getElem_range] at A;rw [List.length_range] at C;subst A;exact ⟨C,(aY h).symm⟩
 have p:((List.range (b - a+1).toNat).map (λj:Nat=>a+(j:Int))).length=(b - a+1).toNat:=by simp
 have:=pO (step:=ej (19999700+300)) (f:=λi=>(b,a+(i:Int),g,l,dg,x,0,m,d,k0,k1,k2)) (L:=(List.range (b - a+1).toNat).map (λj:Nat=>a+(j:Int))) (G:=λy=>if inP g dg x 0 y/\rc m d y≠[] then some (.inl 1) else none) (e:=.inr ())
  (λi y h=>by
   obtain ⟨hi,rfl⟩:=step i y h;have M:wrap .i64 (a+(i:Int)+1)=a+((i+1:Nat):Int):=by rw [wrap_i64 _ (by omega) (by omega)];omega
   unfold ej;simp only [d4,d8,M];rw [au (show a+(i:Int)<=b by omega),F,DI (19999700+300) (by omega)];by_cases k:inP g dg x 0 (a+(i:Int))
   ·rw [ad k];by_cases n:rc m d (a+(i:Int))=[]
    ·rw [ab (λh=>h.2 n),n];rfl
    ·rw [ad ⟨k,n⟩];have hp:0<(rc m d (a+(i:Int))).length:=List.length_pos_iff.2 n;have D:decide ((((rc m d (a+(i:Int))).length:Nat):Int)>0)=true:=au (by omega);simp only [am,ob,D];rfl
   ·rw [ab k,ab (λh=>k h.1)];rfl)
  (by
   unfold ej;simp only [d4,d8];rw [p,ar (show ¬a+(((b - a+1).toNat:Nat):Int)<=b by omega)];rfl)
  (N:=19999700+300) (by rw [p];omega)
 rw [show a+((0:Nat):Int)=a by omega] at this;rw [this];cases q:(List.findSome? (λy=>if inP g dg x 0 y/\rc m d y≠[] then some (Sum.inl (1:Int)) else none) ((List.range (b - a+1).toNat).map (λj:Nat=>a+(j:Int))):Option (Int⊕Unit)) with
 | none=>
  refine ⟨0,rfl,.inr ⟨rfl,?_⟩⟩;rintro ⟨e,s,w⟩;rw [Jn] at q;have hs:=P e s;have:=q e (da.2 ⟨(e - a).toNat,ij.2 (by omega),by omega⟩);rw [ad ⟨s,w⟩] at this;cases this
 | some z=>
  obtain ⟨y,K,o⟩:=List.exists_of_findSome?_eq_some q;by_cases t:inP g dg x 0 y/\rc m d y≠[]
  ·rw [ad t] at o;obtain rfl:=aY o;exact ⟨1,rfl,.inl ⟨rfl,y,t.1,t.2⟩⟩
  ·rw [ab t] at o;cases o
def tC{g l:Bool}{dg:aa}{x q:Int}{m d:aa}{k0 k1 k2:Int}(c:dg.length<=100)(p:0<=k0)(s:0<=k1)(n:0<=k2):
  bq 20000000 g l dg x q m d k0 k1 k2=some (chkF g l dg x q m d k0 k1 k2):=by
 unfold bq chkF;rw[y4 20000000 (by omega) g l dg x q m d k0 k1 k2 c p s n];simp only[ob];by_cases hc:chkD g l dg x q m d k0 k1 k2=0
 ·obtain⟨a,k,j,u,i⟩:=lK hc;rw[hc];by_cases b:d=[]
  ·subst b;rw[ab (by simp)];rfl
  ·have e:q=0:=by
    have:=G9 a;by_cases h:0<q
    ·exact absurd (u h) (i b).1
    ·omega
   subst e;obtain⟨r,t,o⟩:=Hg a m d k0 k1 k2;rw[dZ b,t];rcases o with⟨rfl,f⟩ | ⟨rfl,f⟩
   ·rw[ab (λh=>h.2.2 f)];rfl
   ·rw[ad ⟨rfl,b,f⟩];rfl
 ·rw[ab (λh=>hc h.1)];have:(chkD g l dg x q m d k0 k1 k2==0)=false:=aN.2 hc;rw[this];rfl
def sF{g l:Bool}{dg:aa}{x q:Int}{m d:aa}{k0 k1 k2:Int}(h:chkF g l dg x q m d k0 k1 k2=0):chkD g l dg x q m d k0 k1 k2=0:=by
 unfold chkF at h;split at h
 ·cases h
 ·exact h
def bne0{e:Int}(h:e≠0):(e != 0)=true:=by simp[h]
def AZ{m d:aa}{y:Int}{z:Int×Int×Int}:z∈rc m d y↔z.1=y/\z.2.1∈monI m/\z.2.2∈dayI d/\z.2.2<=re d y z.2.1:=by
 unfold rc qR;simp only[zU,da,jm,cA];constructor
 ·rintro⟨f,c,k,⟨b,a⟩,rfl⟩;exact⟨rfl,c,b,a⟩
 ·rintro⟨e,c,b,a⟩;exact⟨z.2.1,c,z.2.2,⟨b,a⟩,by rw[<-e]⟩
def LF(y:Int)(i:Nat):(minL i:Int)<=lenI y (i:Int):=by
 unfold minL lenI
 repeat' split
 all_goals omega
def IM{g l:Bool}{dg:aa}{x:Int}(a:okY g l dg x 0){m d:aa}(p:m≠[])(hs:sea m=0)(h:d≠[])(c:fitD m d=true):hasF g dg x m d:=by
 obtain⟨j,_,_⟩:=zf a;refine⟨_,j,?_⟩;unfold fitD at c;simp only[oh,aC]at c;obtain⟨i,hi,q,k,o,b⟩:=c;have hi':=oD.1 hi;have hk':=oD.1 o;have n:minL i<=31:=by
  unfold minL
  repeat' split
  all_goals omega
 have f:((sgn g (kJ g dg x 0)).1,(i:Int),(k:Int))∈rc m d (sgn g (kJ g dg x 0)).1:=by
  rw[AZ];refine⟨rfl,?_,?_,?_⟩
  ·unfold monI;rw[ab p,ab (by omega)];exact da.2 ⟨i,jm.2 ⟨hi,q⟩,rfl⟩
  ·unfold dayI;rw[ab h];exact da.2 ⟨k,jm.2 ⟨oD.2 (by omega),b⟩,rfl⟩
  ·unfold re;rw[ab h];have:=LF (sgn g (kJ g dg x 0)).1 i;show(k:Int)<=lenI (sgn g (kJ g dg x 0)).1 (i:Int);omega
 intro e;rw[e]at f;cases f
def BU{g l:Bool}{dg:aa}{x q:Int}{m d:aa}{k0 k1 k2:Int}(hc:chkD g l dg x q m d k0 k1 k2=0)(o:d=[]\/fitD m d=true):chkF g l dg x q m d k0 k1 k2=0:=by
 obtain⟨a,j,i,p,e⟩:=lK hc;unfold chkF;rw[ab,hc];rintro⟨_,c,n⟩;obtain⟨f,k⟩:=e c;have b:q=0:=by
  have:=G9 a;by_cases h:0<q
  ·exact absurd (p h) f
  ·omega
 subst b;exact n (IM a f k c (o.resolve_left c))
def dayY(y:Int):Int:=365*y+(1+(y - 1) / 4 - (y - 1) / 100+(y - 1) / 400)
def cumM(y:Int):Nat->Int
 | 0=>0
 | k+1=>cumM y k+lenI y ((k+1:Nat):Int)
def dayM(y:Int)(m:Nat):Int:=if m<=12 then dayY y+cumM y (m - 1)else dayY (y+1)+cumM (y+1) (m - 13)
def rQ(y:Int):dayY (y+1)=dayY y+365+(if oV y then 1 else 0):=by
 unfold dayY oV;simp only[aC,fP,cA];split<;>omega
def A3(n:Int):dayY (400*n)=146097*n:=by
 unfold dayY;omega
def ir{y:Int}(h:-20000000000000000<=y/\y<=20000000000000000):-8000000000000000000<=dayY y/\dayY y<=8000000000000000000:=by
 unfold dayY;omega
def O8(y:Int):cumM y 12=365+(if oV y then 1 else 0):=by
 have e:∀k:Nat,cumM y (k+1)=cumM y k+lenI y ((k+1:Nat):Int):=λ_=>rfl;have z:cumM y 0=0:=rfl;rw[e 11,e 10,e 9,e 8,e 7,e 6,e 5,e 4,e 3,e 2,e 1,e 0,z];unfold lenI;cases oV y<;>rfl
def nc(y:Int):∀k:Nat,0<=cumM y k/\cumM y k<=31*(k:Int)
 | 0=>by simp[cumM]
 | k+1=>by
  have b:=nc y k;have a:=gG y ((k+1:Nat):Int);show 0<=cumM y k+lenI y ((k+1:Nat):Int)/\cumM y k+lenI y ((k+1:Nat):Int)<=_;omega
def l8{y:Int}(h:cV y){m:Nat}(a:m<=24):-8100000000000000000<=dayM y m/\dayM y m<=8100000000000000000:=by
 unfold cV at h;unfold dayM;split
 ·have:=nc y (m - 1);have:=ir (y:=y) (by omega);omega
 ·have:=nc (y+1) (m - 13);have:=ir (y:=y+1) (by omega);omega
def JL(y:Int):dayM y 13=dayY (y+1):=by
 unfold dayM;rw[ab (by omega)];simp[cumM]
def tU(y:Int){m:Nat}(b:1<=m)(a:m<=12):dayM y (m+1)=dayM y m+lenI y (m:Int):=by
 obtain⟨k,rfl⟩:∃k,m=k+1:=⟨m - 1,by omega⟩;have e:dayM y (k+1)=dayY y+cumM y k:=by unfold dayM;rw[ad (by omega)];rfl
 rw[e];by_cases h:k+1=12
 ·obtain rfl:k=11:=by omega
  rw[JL,rQ];have:=O8 y;have e:cumM y 12=cumM y 11+lenI y ((11+1:Nat):Int):=rfl;omega
 ·have:dayM y (k+1+1)=dayY y+cumM y (k+1):=by unfold dayM;rw[ad (by omega)];rfl
  rw[this];show dayY y+(cumM y k+lenI y ((k+1:Nat):Int))=_;omega
def pY(y:Int){m:Nat}(b:1<=m)(a:m<=12):dayM y (m+12)=dayM (y+1) m:=by
 unfold dayM;rw[ab (by omega),ad a];congr 2
def oa(n:Nat){y:Int}(h:-10000000000000001<=y/\y<=10000000000000001):ji n y=some (dayY y):=by
 have a:=ir (y:=y) (by omega);unfold ji;rw[tY n (by omega),wrap_i64 (365*y) (by omega) (by omega)];show some (wrap .i64 (dayY y))=_;rw[wrap_i64 _ (by omega) (by omega)]
def oc(n:Nat){y:Int}(h:cV y):jq n y=some (dayY y,0):=by
 unfold jq;have h':=h;unfold cV at h';rw[eA,ad h,oa n (by omega)];rfl
def yp(n:Nat){y:Int}(h:cV y):pG n y=some (dayY (y+1) - 1,0):=by
 unfold pG;have h':=h;unfold cV at h';have a:=ir (y:=y+1) (by omega);rw[eA,ad h,wrap_i64 (y+1) (by omega) (by omega),oa n (by omega)];show some (wrap .i64 (dayY (y+1) - 1),(0:Int))=_;rw[wrap_i64 _ (by omega) (by omega)]
def zT(n:Nat){y:Int}(h:cV y){m:Nat}(d:m<=11):∀(r j:Nat),j+r=m->∀N,r<N->aw (bh n) N (y,dayY y+cumM y j,(m:Int),(j:Int))=some (dayY y+cumM y m):=by
 have h':=h;unfold cV at h';have e:=ir (y:=y) (by omega);intro r
 induction r with
 | zero=>
  intro j a N b;obtain⟨N,rfl⟩:∃k,N=k+1:=⟨N - 1,by omega⟩;obtain rfl:j=m:=by omega
  have:bh n (y,dayY y+cumM y j,(j:Int),(j:Int))=some (.inr (dayY y+cumM y j)):=by
   unfold bh;rw[bP,ab (show¬((j:Int)<(j:Int))by omega)]
  rw[aw,this]
 | succ r ih=>
  intro j a N b;obtain⟨N,rfl⟩:∃k,N=k+1:=⟨N - 1,by omega⟩;have w:wrap .i64 ((j:Int)+1)=((j+1:Nat):Int):=by rw[wrap_i64 _ (by omega) (by omega)];omega
  have hc:=nc y j;have c:=gG y ((j+1:Nat):Int);have:bh n (y,dayY y+cumM y j,(m:Int),(j:Int))=some (.inl (y,dayY y+cumM y (j+1),(m:Int),((j+1:Nat):Int))):=by
   unfold bh;rw[bP,ad (show((j:Int)<(m:Int))by omega)];simp only[w,se n h (show 1<=j+1 by omega) (show j+1<=12 by omega),ob];rw[wrap_i64 (dayY y+cumM y j+lenI y ((j+1:Nat):Int)) (by omega) (by omega),Int.add_assoc];rfl
  rw[aw,this];exact ih (j+1) (by omega) N (by omega)
def qf(n:Nat)(c:100<n){y:Int}(h:cV y){m:Nat}(b:1<=m)(a:m<=12):dN n y (m:Int)=some (dayM y m,0):=by
 unfold dN;have w:wrap .i64 ((m:Int) - 1)=((m - 1:Nat):Int):=by rw[wrap_i64 _ (by omega) (by omega)];omega
 rw[A8 n h b a,oc n h,w];have:=zT n h (m:=m - 1) (by omega) (m - 1) 0 (by omega) n (by omega);rw[show dayY y+cumM y 0=dayY y by simp[cumM]]at this;show ob (aw (bh n) n (y,dayY y,((m - 1:Nat):Int),((0:Nat):Int))) _=_;rw[this];unfold dayM;rw[ad a];rfl
def zY(n:Nat)(c:100<n){y:Int}(h:cV y){m:Nat}(b:1<=m)(a:m<=12):fj n y (m:Int)=some (dayM y (m+1) - 1,0):=by
 unfold fj;have e:=l8 h (m:=m) (by omega);have d:=gG y (m:Int);rw[qf n c h b a,se n h b a,tU y b a];show some (wrap .i64 (wrap .i64 (dayM y m+lenI y (m:Int)) - 1),(0:Int))=_;rw[wrap_i64 (dayM y m+lenI y (m:Int)) (by omega) (by omega),wrap_i64 _ (by omega) (by omega)]
def C3(n:Nat)(d:100<n){y:Int}(h:cV y){j m c:Nat}(o:j<21)(e:kQ[j]?=some ((m:Int),(c:Int)))(g:1<=m)(f:m<=12)(i:1<=c)(k:c<=6)(hy:12<m+c - 1->y≠10000000000000000):
  fC n y ((21+j:Nat):Int)=some (0,dayM y m,0,dayM y (m+c) - 1,0):=by
 have l:dO n ((21+j:Nat):Int)=some ((m:Int),(c:Int),0):=by
  unfold dO cO;rw[bP,bP,ab (by omega),ab (by omega)];have:wrap .i64 (((21+j:Nat):Int) - 21)=(j:Int):=by rw[wrap_i64 _ (by omega) (by omega)];omega
  rw[this,cK o];show ob (kQ[j]?) _=_;rw[e];rfl
 unfold fC;rw[l];simp only[ob,eG,af];rw[qf n d h g f];simp only[ob,eG,af];rw[madd n h g f i k];have h':=h;unfold cV at h';by_cases a:12<m+c - 1
 ·rw[ad a,ab (hy a)];have b:cV (y+1):=by unfold cV;have:=hy a;omega
  simp only[ob,eG,af];rw[zY n d b (m:=m+c - 1 - 12) (by omega) (by omega)];have:=pY y (m:=m+c - 1 - 12+1) (by omega) (by omega);rw[show m+c - 1 - 12+1+12=m+c by omega]at this;rw[this]
 ·rw[ab a];simp only[ob,eG,af];rw[zY n d h (m:=m+c - 1) (by omega) (by omega),show m+c - 1+1=m+c by omega]
def vz(n:Nat){y:Int}(hy:-10000000000000002<=y/\y<=10000000000000002):∀(r:Nat) (z:Int),z+(r:Int)=y->-10000000000000402<=z->∀N,r<N->aw (cb n) N (y,dayY z,z)=some (dayY y):=by
 intro r
 induction r with
 | zero=>
  intro z c a N e;obtain⟨N,rfl⟩:∃k,N=k+1:=⟨N - 1,by omega⟩;obtain rfl:z=y:=by omega
  have:cb n (z,dayY z,z)=some (.inr (dayY z)):=by
   unfold cb;rw[bP,ab (show¬(z<z)by omega)]
  rw[aw,this]
 | succ r ih=>
  intro z c a N e;obtain⟨N,rfl⟩:∃k,N=k+1:=⟨N - 1,by omega⟩;have f:=ir (y:=z) (by omega);have b:=rQ z;have:cb n (y,dayY z,z)=some (.inl (y,dayY (z+1),z+1)):=by
   unfold cb;rw[bP,ad (show z<y by omega),xb];have d:lenI z 2=if oV z then 29 else 28:=rfl
   simp only[ob,d];rw[wrap_i64 (dayY z+365) (by omega) (by omega),wrap_i64 (dayY z+365+1) (by omega) (by omega),wrap_i64 (z+1) (by omega) (by omega),b];cases oV z
   ·simp
   ·rfl
  rw[aw,this];exact ih (z+1) (by omega) (by omega) N (by omega)
def nN(n:Nat)(e:1000<n){y:Int}(hy:-10000000000000002<=y/\y<=10000000000000002):bL n y=some (dayY y):=by
 have b:=Int.mul_tdiv_add_tmod y 400;have d:Int.tmod y 400=if 0<=y then y%400 else -((-y)%400):=by
  by_cases h:0<=y
  ·rw[ad h,Fz h]
  ·rw[ab h,<-Fz (show 0<=-y by omega),Int.neg_tmod,Int.neg_neg]
 unfold bL;by_cases a:Int.tmod y 400<0
 ·rw[au a];have c:Int.tdiv y 400 - 1=y / 400:=by
   rw[d]at a b;split at a
   ·omega
   ·rw[ab (by assumption)]at b;omega
  rw[wrap_i64 (Int.tdiv y 400) (by omega) (by omega),c,wrap_i64 (y / 400) (by omega) (by omega),wrap_i64 (y / 400*146097) (by omega) (by omega),wrap_i64 (y / 400*400) (by omega) (by omega)];have:=vz n hy (y - y / 400*400).toNat (y / 400*400) (by omega) (by omega) n (by omega);rw[show dayY (y / 400*400)=y / 400*146097 by rw[vw,A3,vw]]at this;simp only[am,this,ob]
 ·rw[ar a];have c:Int.tdiv y 400=y / 400:=by
   rw[d]at a b;split at a
   ·rw[ad (by assumption)]at b;omega
   ·rw[ab (by assumption)]at b;omega
  rw[c,wrap_i64 (y / 400) (by omega) (by omega),wrap_i64 (y / 400*146097) (by omega) (by omega),wrap_i64 (y / 400*400) (by omega) (by omega)];have:=vz n hy (y - y / 400*400).toNat (y / 400*400) (by omega) (by omega) n (by omega);rw[show dayY (y / 400*400)=y / 400*146097 by rw[vw,A3,vw]]at this;simp only[af,this,ob]
def tN{step:Int×Int×Int×Int->Option ((Int×Int×Int×Int)⊕Int)}(n:Nat)
  (hs:step=λx=>(cond (decide (x.2.2.2<x.2.1)) (ob (dh n x.1 x.2.2.2) λr=>(some (.inl (x.1,x.2.1,(wrap .i64 (x.2.2.1+r)),(wrap .i64 (x.2.2.2+1)))))) (some (.inr x.2.2.1))))
  {y:Int} (hy:-10000000000000002<=y/\y<=10000000000000002) {m:Nat} (h:1<=m) (b:m<=12) {N:Nat} (a:20<N):aw step N (y,(m:Int),dayY y,1)=some (dayM y m):=by
 have g:=ir (y:=y) (by omega);have d:∀(r j:Nat),j+1+r=m->∀N,r<N->aw step N (y,(m:Int),dayY y+cumM y j,((j+1:Nat):Int))=some (dayY y+cumM y (m - 1)):=by
  intro r
  induction r with
  | zero=>
   intro j c N a;obtain⟨N,rfl⟩:∃k,N=k+1:=⟨N - 1,by omega⟩;obtain rfl:j+1=m:=by omega
   have:step (y,((j+1:Nat):Int),dayY y+cumM y j,((j+1:Nat):Int))=some (.inr (dayY y+cumM y j)):=by
    rw[hs];simp only[];rw[ar (show¬(((j+1:Nat):Int)<((j+1:Nat):Int))by omega)];rfl
   rw[aw,this];rfl
  | succ r ih=>
   intro j c N a;obtain⟨N,rfl⟩:∃k,N=k+1:=⟨N - 1,by omega⟩;have w:wrap .i64 (((j+1:Nat):Int)+1)=((j+1+1:Nat):Int):=by rw[wrap_i64 _ (by omega) (by omega)];omega
   have hc:=nc y j;have f:=gG y ((j+1:Nat):Int);have:step (y,(m:Int),dayY y+cumM y j,((j+1:Nat):Int))=some (.inl (y,(m:Int),dayY y+cumM y (j+1),((j+1+1:Nat):Int))):=by
    rw[hs];simp only[];rw[au (show(((j+1:Nat):Int)<(m:Int))by omega),xb];simp only[am,ob,w];rw[wrap_i64 (dayY y+cumM y j+lenI y ((j+1:Nat):Int)) (by omega) (by omega),Int.add_assoc];rfl
   rw[aw,this];exact ih (j+1) (by omega) N (by omega)
 have:=d (m - 1) 0 (by omega) N (by omega);rw[show dayY y+cumM y 0=dayY y by simp[cumM]]at this;have e:dayM y m=dayY y+cumM y (m - 1):=by unfold dayM;rw[ad b]
 rw[e];exact this
def nB(n:Nat)(a:1000<n){y:Int}(hy:-10000000000000001<=y/\y<=10000000000000001){m:Nat}(c:1<=m)(b:m<=24):aM n y (m:Int)=some (dayM y m):=by
 unfold aM;by_cases h:12<m
 ·rw[au (show(m:Int)>12 by omega),wrap_i64 (y+1) (by omega) (by omega),wrap_i64 ((m:Int) - 12) (by omega) (by omega),show(m:Int) - 12=((m - 12:Nat):Int)by omega];unfold hS;rw[ar (show¬((m - 12:Nat):Int)>12 by omega),nN n a (by omega)];simp only[am,af,ob];have:=tN (step:=f8 n) n rfl (y:=y+1) (by omega) (m:=m - 12) (by omega) (by omega) (N:=n) (by omega);rw[this,<-pY y (by omega) (by omega),show m - 12+12=m by omega]
 ·rw[ar (show¬(m:Int)>12 by omega),nN n a (by omega)];simp only[af,ob];have:=tN (step:=ic n) n rfl (y:=y) (by omega) (m:=m) (by omega) (by omega) (N:=n) (by omega);rw[this]
def twoV(s:aa):Nat:=match s with
 | [a,b]=>10*(a.toNat - 48)+(b.toNat - 48)
 | _=>0
def yOf(g:Bool)(dg:aa)(x:Int):Int:=if g then -((val dg x.toNat:Nat):Int)else((val dg x.toNat:Nat):Int)
def spF(m:aa):Nat:=((kQ.getD (sea m - 21).toNat (0,0)).1).toNat
def spC(m:aa):Nat:=((kQ.getD (sea m - 21).toNat (0,0)).2).toNat
def lg(g:Bool)(dg:aa)(x:Int)(m d:aa):Int×Int:=
 if m=[]then(dayY (yOf g dg x),dayY (yOf g dg x+1) - 1)
 else if 0<sea m then(dayM (yOf g dg x) (spF m),dayM (yOf g dg x) (spF m+spC m) - 1)
 else if d=[]then(dayM (yOf g dg x) (twoV m),dayM (yOf g dg x) (twoV m+1) - 1)
 else(dayM (yOf g dg x) (twoV m)+(twoV d:Int) - 1,dayM (yOf g dg x) (twoV m)+(twoV d:Int) - 1)
def exD(dg m d:aa)(q:Int):Bool:=!(hasX dg||(hasX m||hasX d))&&(q==0)
def JE{s:aa}(h:hasX s=false){c:UInt8}(hc:c∈s):c≠88:=by
 rintro rfl;unfold hasX at h;rw[pT]at h;exact h 88 hc (by decide)
def G0{s:aa}(h:hasX s=false){k:Nat}(l:k<100)(c:agr s k=true):twoV s=k/\s=two k:=by
 unfold agr at c;split at c
 ·rename_i a b;have d:a≠88:=JE h (by simp);have g:b≠88:=JE h (by simp);simp only[aC,fP,bI]at c;obtain⟨f,e⟩:=c;have f:=f.resolve_left d;have e:=e.resolve_left g;subst f e;refine⟨?_,rfl⟩;unfold twoV;have i:(UInt8.ofNat (48+k / 10)).toNat=48+k / 10:=by simp;omega
  have j:(UInt8.ofNat (48+k%10)).toNat=48+k%10:=by simp;omega
  simp only[i,j];omega
 ·cases c
def uL{s:aa}(h:hasX s=false){g:Nat}(d:g<100)(a:dq s g=true):1<=twoV s/\twoV s<=g/\s=two (twoV s):=by
 unfold dq at a;obtain⟨i,hi,a⟩:=oh.1 a;have:=ij.1 hi;obtain⟨b,c⟩:=G0 h (by omega) a;rw[b];exact⟨by omega,by omega,c⟩
def E7{s:aa}(h:hasX s=false){g:Nat}(d:g<100){k:Int}(b:k∈pV (fitN s g)):k=(twoV s:Int):=by
 obtain⟨i,hi,rfl⟩:=da.1 b;obtain⟨c,a⟩:=jm.1 hi;have:=oD.1 c;rw[(G0 h (by omega) a).1]
def Ba{k:Nat}(c:k<100):Lib.atoi (two k)=some (k:Int):=by
 have b:(UInt8.ofNat (48+k / 10)).toNat=48+k / 10:=by simp;omega
 have a:(UInt8.ofNat (48+k%10)).toNat=48+k%10:=by simp;omega
 unfold two;rw[Hh (by omega) (by omega),b,a];congr 2;omega
def vk(n:Nat){k:Nat}(d:k<100):aT n (two k)=some (k:Int):=by
 have c:(UInt8.ofNat (48+k / 10)).toNat=48+k / 10:=by simp;omega
 have b:(UInt8.ofNat (48+k%10)).toNat=48+k%10:=by simp;omega
 have s0:sx (two k) 0=some (UInt8.ofNat (48+k / 10)):=rfl;have a:sx (two k) 1=some (UInt8.ofNat (48+k%10)):=rfl;unfold aT;rw[s0,a];simp only[ob,c,b]
 rw[en (((48+k / 10:Nat):Int) - 48) (by omega) (by omega),en (((48+k%10:Nat):Int) - 48) (by omega) (by omega),
  wrap_i64 (((48+k / 10:Nat):Int) - 48) (by omega) (by omega),wrap_i64 (((48+k%10:Nat):Int) - 48) (by omega) (by omega),
  wrap_i64 (10*(((48+k / 10:Nat):Int) - 48)) (by omega) (by omega),wrap_i64 _ (by omega) (by omega)]
 congr 1;omega
structure Exact(g l:Bool)(dg:aa)(x:Int)(m d:aa):Prop where
 ok:okY g l dg x 0
 num:hasX dg=false
 cal:cV (yOf g dg x)
 mon:m=[]\/(∃j,j<21/\m=two (21+j)/\(j=3\/j=7\/j=9->yOf g dg x≠10000000000000000))\/(sea m=0/\1<=twoV m/\twoV m<=12/\m=two (twoV m))
 day:d=[]\/(m≠[]/\sea m=0/\1<=twoV d/\twoV d<=31/\d=two (twoV d)/\(twoV d:Int)<=lenI (yOf g dg x) (twoV m:Int))
def rx{g l:Bool}{dg:aa}{x q:Int}{m d:aa}{k0 k1 k2:Int}(hc:chkF g l dg x q m d k0 k1 k2=0)(s:exD dg m d q=true):q=0/\Exact g l dg x m d:=by
 unfold exD at s;simp only[aC,jd,Bn,bI]at s;obtain⟨⟨y,n,o⟩,rfl⟩:=s;refine⟨rfl,?_⟩;have D:=sF hc;obtain⟨a,Q,K,R,E⟩:=lK D;obtain⟨r,J,c3,c4⟩:=ym D;have f:=zG a y;obtain⟨H,_,_⟩:=zf a;have hy:inP g dg x 0 (yOf g dg x):=by
  have:=(f _).1 H;have e:yOf g dg x=(sgn g (kJ g dg x 0)).1:=by rw[this];rfl
  rw[e];exact H
 have k:=vB hy;refine⟨a,y,k,?_,?_⟩
 ·by_cases p:m=[]
  ·exact .inl p
  ·right;rcases lO m with N | ⟨j,I,e⟩
   ·right;rcases J with h | h | h
    ·exact absurd h p
    ·omega
    ·obtain⟨C,A,v⟩:=uL n (by omega) h;exact⟨N,C,A,v⟩
   ·left;refine⟨j,I,e,λM=>?_⟩;unfold yrD at r;rw[ad a]at r;unfold yrB at r;simp only[aC,jd]at r;have G:wint (sea m)=true:=by
     rw[e,iJ I];rcases M with rfl | rfl | rfl<;>rfl
    have i:=r.2;rw[G,kP]at i;unfold mT at i;rw[y]at i;intro b;unfold yOf at b;cases g with
    | true=>
     simp only[bc]at b;omega
    | false=>
     simp only[cj,aG]at b;have:val dg x.toNat=E16:=by unfold E16;omega
     rw[au this]at i;cases i
 ·by_cases c:d=[]
  ·exact .inl c
  ·right;obtain⟨p,hs⟩:=E c;rcases c3 with h | ⟨_,_,h⟩
   ·exact absurd h c
   ·obtain⟨C,A,v⟩:=uL o (by omega) h;refine⟨p,hs,C,A,v,?_⟩;have P:hasF g dg x m d:=by
     unfold chkF at hc;split at hc
     ·cases hc
     ·rename_i O;by_cases h:hasF g dg x m d
      ·exact h
      ·exact absurd ⟨D,c,h⟩ O
    obtain⟨e,s,u⟩:=P;obtain⟨z,L,t⟩:=List.exists_cons_of_ne_nil u;have t:z∈rc m d e:=by rw[t];exact xc
    obtain⟨z1,z2,B,F⟩:=AZ.1 t;have w:e=yOf g dg x:=(f e).1 s;unfold monI at z2;rw[ab p,ab (by omega)]at z2;unfold dayI at B;rw[ab c]at B;unfold re at F;rw[ab c,E7 o (by omega) B,E7 n (by omega) z2,w]at F;exact F
def Ah{j:Nat}(b:j<21):∃f c:Nat,kQ[j]?=some ((f:Int),(c:Int))/\1<=f/\f<=12/\1<=c/\c<=6/\(12<f+c - 1↔j=3\/j=7\/j=9)/\spF (two (21+j))=f/\spC (two (21+j))=c:=by
 obtain⟨f,c,e,k,i,d,h,g⟩:=CV b;have hs:(sea (two (21+j)) - 21).toNat=j:=by rw[iJ b];omega
 have a:kQ.getD j (0,0)=((f:Int),(c:Int)):=by rw[Bh,e];rfl
 refine⟨f,c,e,k,i,d,h,g,?_,?_⟩
 ·unfold spF;rw[hs,a];rfl
 ·unfold spC;rw[hs,a];rfl
def xm(n:Nat){j:Nat}(a:j<21):fg n ((21+j:Nat):Int)=kQ[j]?:=by
 have:j=0\/j=1\/j=2\/j=3\/j=4\/j=5\/j=6\/j=7\/j=8\/j=9\/j=10\/j=11\/j=12\/j=13\/j=14\/j=15\/j=16\/j=17\/j=18\/j=19\/j=20:=by omega
 rcases this with rfl | rfl | rfl | rfl | rfl | rfl | rfl | rfl | rfl | rfl | rfl | rfl | rfl | rfl | rfl | rfl | rfl | rfl | rfl | rfl | rfl<;>rfl
def A2(n:Nat)(g l:Bool)(dg:aa)(x q:Int)(m d:aa)(k0 k1 k2:Int)(b:m.length<=1000)(a:dg.length<=1000)(h:d.length<=1000):jP n g l dg x q m d k0 k1 k2=some (exD dg m d q):=by
 unfold jP exD;rw[yC n g l dg x q m d k0 k1 k2 b a h];simp only[ob];cases(hasX dg||(hasX m||hasX d))<;>rfl
def Jj{Y:Type}(a b:Y):∀s:aa,((s.findSome? λc=>if c=88 then some a else none).getD b)=if hasX s then a else b
 | []=>rfl
 | c::s=>by
  have ih:=Jj a b s;unfold hasX at ih ⊢;rw[yK,List.any_cons];by_cases hc:c=88
  ·subst hc;rfl
  ·rw[ab hc];have e:(c==88)=false:=aN.2 hc;rw[e,sU];exact ih
def uw (n:Nat) (s:aa) (g l:Bool) (dg:aa) (x q:Int) (m d:aa) (k0 k1 k2:Int) (hs:s.length<=100000) {N:Nat} (a:s.length<N):
  aw (de n) N (s,0,g,l,dg,x,q,m,d,k0,k1,k2)=some (if hasX s then .inl 0 else .inr (g,l,dg,x,q,m,d,k0,k1,k2)):=by
 have:=pO (step:=de n) (f:=λi=>(s,(i:Int),g,l,dg,x,q,m,d,k0,k1,k2)) (L:=s) (G:=λc=>if c=88 then some (.inl 0) else none) (e:=.inr (g,l,dg,x,q,m,d,k0,k1,k2))
  (λi c hi=>by
   have b:=(lu.1 hi).1;have j:wrap .i64 ((i:Int)+1)=((i+1:Nat):Int):=by rw [wrap_i64 _ (by omega) (by omega)];omega
   unfold de;simp only [d4,d8,j];rw [au (show (i:Int)<((s.length:Nat):Int) by omega),kl hi];simp only [am,ob];by_cases hc:c=88
   ·subst hc;rw [ad rfl];rfl
   ·rw [ab hc];have:(((c.toNat:Nat):Int)==88)=false:=by
     rw [aN];intro h;apply hc;apply hZ.1;have:c.toNat=88:=by omega
     rw [this];rfl
    rw [this];rfl)
  (by
   unfold de;simp only [d4,d8];rw [ar (show ¬((s.length:Nat):Int)<((s.length:Nat):Int) by omega)];rfl)
  a
 rw [show ((0:Nat):Int)=0 from rfl] at this;rw [this];rw [Jj]
def yf(n:Nat)(g l:Bool)(dg:aa)(x q:Int)(m d:aa)(k0 k1 k2:Int)(f:m.length<=1000)(e:dg.length<=1000)(h:d.length<=1000)(i:4000<n):aU n g l dg x q m d k0 k1 k2=some (if exD dg m d q then 1 else 0):=by
 unfold aU;rw[lp (by omega)];simp only[ob];rw[lp (by rw[gv];omega)];simp only[];rw[uw n _ _ _ _ _ _ _ _ _ _ _ (by simp only[gv];omega) (by simp only[gv];omega)];rw[rJ,rJ];unfold exD;cases hasX dg<;>cases hasX m<;>cases hasX d<;>(try rfl);simp only[Bool.or_false,cj,aG,ob,d4,jc,kP];by_cases a:q=0
 ·subst a;rfl
 ·have c:(q != 0)=true:=by simp[a]
  have b:(q==0)=false:=aN.2 a;rw[c,b];rfl
def KH(n:Nat)(c:100<n){y:Int}(h:cV y){m k:Nat}(b:1<=m)(a:m<=12)(k1:1<=k)(k2:(k:Int)<=lenI y (m:Int)):nY n y (m:Int) (k:Int)=some (dayM y m+(k:Int) - 1,0):=by
 have e:=l8 h (m:=m) (by omega);have d:=gG y (m:Int);unfold nY m5;rw[Gf n h b a];simp only[ob,eG,af];rw[ar (show¬(k:Int)<1 by omega),ar (show¬(k:Int)>lenI y (m:Int)by omega),qf n c h b a];simp only[ob,eG,af];rw[wrap_i64 (dayM y m+(k:Int)) (by omega) (by omega),wrap_i64 _ (by omega) (by omega)]
section
variable {g l:Bool} {dg:List UInt8} {x:Int} {m d:List UInt8} {k0 k1 k2:Int}
def zr (n:Nat) (w:100<n) (A:m.length<=18) (E:Exact g l dg x m d) (q r:Int) (F:m≠[]->q=if 0<sea m then sea m else (twoV m:Int)) (L:d≠[]->r=(twoV d:Int)):
  (ob (gy n) λz=>(ob (aX n g l dg x 0 m d k0 k1 k2) λb=>(cond (b==0) (ob (eD n (yOf g dg x) ([q,r]:List (Int))) λk=>(some (k.1,k.2.1,k.2.2.1,k.2.2.2,(0:Int)))) (cond (b==1) (ob (eK n (yOf g dg x) ([q,r]:List (Int))) λi=>(some (i.1,i.2.1,i.2.2.1,i.2.2.2,0))) (cond (b==2) (ob (eI n (yOf g dg x) ([q,r]:List (Int))) λo=>(some (o.1,o.2.1,o.2.2.1,o.2.2.2,0))) (cond (b==3) (ob (eC n (yOf g dg x) ([q,r]:List (Int))) λa=>(some (a.1,a.2.1,a.2.2.1,a.2.2.2,0))) none)))))) =
   some (0,(lg g dg x m d).1,0,(lg g dg x m d).2,0):=by
 have M:gy n=some ():=rfl;have y:ix ([q,r]:List Int).length 0=some 0:=rfl;have Q:ix ([q,r]:List Int).length 1=some 1:=rfl;have g0:([q,r]:List Int)[0]?=some q:=rfl;have O:([q,r]:List Int)[1]?=some r:=rfl;rw [M,Fh n g l dg x 0 m d k0 k1 k2 A];unfold lg;by_cases t:d=[]
 ·rw [ad t];by_cases p:m=[]
  ·have hs:sea m=0:=by rw [p];decide
   rw [ab (show ¬0<sea m by omega),ad p,ad p];unfold eK;rw [oc n E.cal,yp n E.cal];rfl
  ·rw [ab p];by_cases hs:0<sea m
   ·rw [ad hs,ad hs];rcases E.mon with h | ⟨j,s,e,D⟩ | ⟨h,_⟩
    ·exact absurd h p
    ·obtain ⟨f,c,J,v,u,K,N,H,S,P⟩:=Ah s;have B:q=((21+j:Nat):Int):=by rw [F p,ad hs,e,iJ s]
     unfold eD;rw [y];simp only [ob,g0];rw [B,C3 n w E.cal s J v u K N (λh=>D (H.1 h)),e,S,P];rfl
    ·omega
   ·rw [ab hs,ab hs,ab p,ad t];rcases E.mon with h | ⟨j,s,e,D⟩ | ⟨_,v,u,_⟩
    ·exact absurd h p
    ·rw [e,iJ s] at hs;omega
    ·have B:q=(twoV m:Int):=by rw [F p,ab hs]
     unfold eI;rw [y];simp only [ob,g0];rw [B,qf n w E.cal v u,zY n w E.cal v u];rfl
 ·rw [ab t];rcases E.day with h | ⟨p,hs,I,T,U,R⟩
  ·exact absurd h t
  ·rw [ab p,ab (show ¬0<sea m by omega),ab t];rcases E.mon with h | ⟨j,s,e,D⟩ | ⟨_,v,u,_⟩
   ·exact absurd h p
   ·rw [e,iJ s] at hs;omega
   ·have G:q=(twoV m:Int):=by rw [F p,ab (by omega)]
    have C:=L t;unfold eC;rw [y,Q];simp only [ob,g0,O];rw [G,C,KH n w E.cal v u I R];rfl
def Ib(E:Exact g l dg x m d)(c:m≠[]):Lib.atoi m=some (if 0<sea m then sea m else(twoV m:Int)):=by
 rcases E.mon with h | ⟨j,a,e,_⟩ | ⟨i,f,n,b⟩
 ·exact absurd h c
 ·rw[e,iJ a,ad (by omega)];exact rO a
 ·rw[ab (by omega)];have:=Ba (k:=twoV m) (by omega);rw[<-b]at this;exact this
def IF(E:Exact g l dg x m d)(b:d≠[]):Lib.atoi d=some (twoV d:Int):=by
 rcases E.day with h | ⟨_,_,e,c,a,_⟩
 ·exact absurd h b
 ·have:=Ba (k:=twoV d) (by omega);rw[<-a]at this;exact this
def wx:Lib.atoi []=none:=by kernel_rfl
def Af{q:Int}(b:m.length<=18)(e:dg.length<=100)(p:d.length<=18)(r:0<=k0)(s:0<=k1)(n:0<=k2):
  eM 20000000 g l dg x q m d k0 k1 k2=some (if chkF g l dg x q m d k0 k1 k2=0 then(if exD dg m d q=true then(0,(lg g dg x m d).1,0,(lg g dg x m d).2,0)else(0,0,0,0,1))else(0,0,0,0,chkF g l dg x q m d k0 k1 k2)):=by
 have o:Nat.ble m.length 18=true:=dl b;have k:Nat.ble d.length 18=true:=dl p;unfold eM;rw[vH b e r s n];simp only[ob];by_cases hc:chkF g l dg x q m d k0 k1 k2=0
 ·rw[ad hc,hc,A2 20000000 g l dg x q m d k0 k1 k2 (by omega) (by omega) (by omega)];simp only[ob,eG,af];by_cases c:exD dg m d q=true
  ·rw[ad c,c];obtain⟨rfl,E⟩:=rx hc c;have t:dk 20000000 g l dg x 0=some (yOf g dg x,0):=by
    rw[wk 20000000 g l dg x 0 (by omega) e,ad ⟨E.ok,E.num⟩];rfl
   rw[t,o,k];simp only[dD,af,am,ob];by_cases i:m=[]
   ·have a:d=[]:=by
     rcases E.day with h | ⟨h,_⟩
     ·exact h
     ·exact absurd i h
    have:=zr (k0:=k0) (k1:=k1) (k2:=k2) 20000000 (by omega) b E 0 0 (λh=>absurd i h) (λh=>absurd a h);have f:Lib.atoi m=none:=by rw[i];exact wx
    have j:Lib.atoi d=none:=by rw[a];exact wx
    rw[f,j];simp only[opt];exact this
   ·have f:=Ib E i;by_cases a:d=[]
    ·have:=zr (k0:=k0) (k1:=k1) (k2:=k2) 20000000 (by omega) b E (if 0<sea m then sea m else(twoV m:Int)) 0 (λ_=>rfl) (λh=>absurd a h);have j:Lib.atoi d=none:=by rw[a];exact wx
     rw[f,j];simp only[opt];exact this
    ·have:=zr (k0:=k0) (k1:=k1) (k2:=k2) 20000000 (by omega) b E (if 0<sea m then sea m else(twoV m:Int)) (twoV d:Int) (λ_=>rfl) (λ_=>rfl);rw[f,IF E a];simp only[opt];exact this
  ·rw[ab c];rw[Bg]at c;rw[c];rfl
 ·rw[ab hc,bne0 hc];rfl
def qD(E:Exact g l dg x m d)(K:dg.length<=100):aQ 20000000 g l dg x 0 m d k0 k1 k2=some (lg g dg x m d):=by
 obtain⟨k,q,rfl,hq,I⟩:=oq E.ok E.num;have hk:k<=17:=by have:=I.wide;omega
 have hs:=I.small;have G:aj 20000000 dg (k:Int)=some (((val dg k:Nat):Int),1):=by
  rw[gJ 20000000 dg k I.dig K (by omega) (by omega),ad I.small];rfl
 have S:dval 0 dg*10 ^ k=val dg k:=rfl;rw[S]at hs;unfold E16 at hs;have hy:yOf g dg (k:Int)=if g then -((val dg k:Nat):Int)else((val dg k:Nat):Int):=by unfold yOf;rw[cf]
 have C:=E.cal;unfold cV at C;have key:∀y:Int,y=yOf g dg (k:Int)->
   (ob (aH 20000000 g l dg (k:Int) 0 m d k0 k1 k2) λn=>(cond (m==([]:aa)) (ob (bL 20000000 y) λu=>(ob (bL 20000000 (wrap .i64 (y+1))) λA=>(some (u,(wrap .i64 (A - 1)))))) (cond (decide (n>0)) (ob (fg 20000000 n) λa=>(ob (aM 20000000 y a.1) λt=>(ob (aM 20000000 y (wrap .i64 (a.1+a.2))) λs=>(some (t,(wrap .i64 (s - 1))))))) (cond (d==([]:aa)) (ob (aT 20000000 m) λz=>(ob (aM 20000000 y z) λv=>(ob (aT 20000000 m) λr=>(ob (aM 20000000 y (wrap .i64 (r+1))) λo=>(some (v,(wrap .i64 (o - 1)))))))) (ob (aT 20000000 m) λp=>(ob (aM 20000000 y p) λb=>(ob (aT 20000000 d) λi=>(some ((wrap .i64 ((wrap .i64 (b+i)) - 1)),(wrap .i64 ((wrap .i64 (b+i)) - 1)))))))))) )=some (lg g dg (k:Int) m d):=by
  intro y N;subst N;have hcal':=E.cal;have rY:=ir (y:=yOf g dg (k:Int)+1) (by omega);rw[jp 20000000 (by omega)];simp only[ob];unfold lg;by_cases B:m=[]
  ·have e:(m==([]:aa))=true:=by rw[B];rfl
   rw[ad B,e,nN 20000000 (by omega) (by omega),wrap_i64 (yOf g dg (k:Int)+1) (by omega) (by omega),nN 20000000 (by omega) (by omega)];simp only[am,ob];rw[wrap_i64 _ (by omega) (by omega)]
  ·rw[ab B,dZ B];simp only[af];by_cases hs:0<sea m
   ·rw[ad hs,au (show sea m>0 from hs)];rcases E.mon with h | ⟨j,F,e,_⟩ | ⟨h,_⟩
    ·exact absurd h B
    ·obtain⟨f,c,P,J,U,O,a4,X,W,T⟩:=Ah F;have M:sea m=((21+j:Nat):Int):=by rw[e,iJ F]
     have V:=l8 hcal' (m:=f+c) (by omega);rw[M,xm 20000000 F,P];simp only[am,ob];rw[nB 20000000 (by omega) (by omega) J (by omega)];simp only[ob];rw[wrap_i64 ((f:Int)+(c:Int)) (by omega) (by omega),show(f:Int)+(c:Int)=((f+c:Nat):Int)by omega,nB 20000000 (by omega) (by omega) (by omega) (by omega)];simp only[ob];rw[wrap_i64 _ (by omega) (by omega),e,W,T]
    ·omega
   ·rw[ab hs,ar (show¬sea m>0 from hs)];simp only[af];rcases E.mon with h | ⟨j,F,e,_⟩ | ⟨_,J,U,O⟩
    ·exact absurd h B
    ·rw[e,iJ F]at hs;omega
    ·have L:=vk 20000000 (k:=twoV m) (by omega);rw[<-O]at L;have V:=l8 hcal' (m:=twoV m) (by omega);have Q:=l8 hcal' (m:=twoV m+1) (by omega);by_cases D:d=[]
     ·have e:(d==([]:aa))=true:=by rw[D];rfl
      rw[ad D,e,L];simp only[am,ob];rw[nB 20000000 (by omega) (by omega) J (by omega)];simp only[ob];rw[wrap_i64 ((twoV m:Int)+1) (by omega) (by omega),show(twoV m:Int)+1=((twoV m+1:Nat):Int)by omega,nB 20000000 (by omega) (by omega) (by omega) (by omega)];simp only[ob];rw[wrap_i64 _ (by omega) (by omega)]
     ·rw[ab D,dZ D];rcases E.day with h | ⟨_,_,Y,Z,R,b4⟩
      ·exact absurd h D
      ·have H:=vk 20000000 (k:=twoV d) (by omega);rw[<-R]at H;rw[L];simp only[af,ob];rw[nB 20000000 (by omega) (by omega) J (by omega),H];simp only[ob];rw[wrap_i64 (dayM (yOf g dg (k:Int)) (twoV m)+(twoV d:Int)) (by omega) (by omega),wrap_i64 _ (by omega) (by omega)]
 unfold aQ;rw[G];simp only[ob];cases g with
 | true=>
  have w:wrap .i64 (0 - ((val dg k:Nat):Int))=yOf true dg (k:Int):=by
   rw[wrap_i64 _ (by omega) (by omega),hy];simp
  rw[w];simp only[am];exact key _ rfl
 | false=>
  have w:((val dg k:Nat):Int)=yOf false dg (k:Int):=by rw[hy];rfl
  rw[w];simp only[af];exact key _ rfl
end
def OJ{g l:Bool}{d:aa}{x s:Int}(h:okY g l d x s):okY g l d x 0:=by
 unfold okY at h ⊢;cases l with
 | true=>
  rw[ad rfl]at h ⊢;unfold okL at h ⊢;refine⟨h.1,pX _,?_⟩;omega
 | false=>
  rw[ab (by simp)]at h ⊢;unfold okS at h ⊢;obtain⟨e,c,a,b,f,j,i⟩:=h;exact⟨e,c,a,b,pX _,by omega,λh=>absurd h.1 (by omega)⟩
def Es(m L K H J f F c k n:Nat)(g:Bool)(M:K<65536)(P:H<256)(N:J<256)(Q:f<256)(O:F<256):
  ∃b l dg x q a d,aE (m+300) (L:Int) g (K:Int) (H:Int) (J:Int) (f:Int) (F:Int) (c:Int) (k:Int) (n:Int)=some (b,l,dg,x,q,a,d,((mksT (dm a d) c k n).1:Int),((mksT (dm a d) c k n).2.1:Int),((mksT (dm a d) c k n).2.2:Int))/\
   okY b l dg x q/\mT b dg x=false/\(L%6≠3->hasX dg=false)/\dg.length<=5/\(q≠0->a=[]/\d=[])/\(q=0->a=monT (f%40))/\
   (d=[]\/(a∈((List.range 12).map λi=>two (i+1))++[[48,88],[49,88],[88,50],[88,88],[88,48],[88,57]]/\a≠[]/\sea a=0/\d=dayT (F%40) a)):=by
 obtain⟨b,l,dg,x,q,e,z,s,E,t⟩:=Ei m L K H J g M P N;have G:=Bf z s E;have S:Int.tmod (c:Int) 4=((c%4:Nat):Int):=rfl;have V:Int.tmod (k:Int) 4=((k%4:Nat):Int):=rfl;have W:Int.tmod (n:Int) 4=((n%4:Nat):Int):=rfl;obtain⟨T,X,Z,U,R,Y⟩:=ko z;have j:∀(a d:aa) (o:Option (Bool×Bool×aa×Int×Int×aa×aa×Int×Int×Int)),
   (ob (ah (m+300) b l dg x q a d 0 0 0) λr=>(cond (decide ((0:Int)<r)) (ob (ah (m+300) b l dg x q a d (Int.tmod (c:Int) 4) 0 0) λr=>(cond (decide ((1:Int)<r)) (ob (ah (m+300) b l dg x q a d (Int.tmod (c:Int) 4) (Int.tmod (k:Int) 4) 0) λr=>(cond (decide ((2:Int)<r)) (ob (ah (m+300) b l dg x q a d (Int.tmod (c:Int) 4) (Int.tmod (k:Int) 4) (Int.tmod (n:Int) 4)) λr=>(cond (decide ((3:Int)<r)) none (some (b,l,dg,x,q,a,d,(Int.tmod (c:Int) 4),(Int.tmod (k:Int) 4),(Int.tmod (n:Int) 4))))) (some (b,l,dg,x,q,a,d,(Int.tmod (c:Int) 4),(Int.tmod (k:Int) 4),0)))) (some (b,l,dg,x,q,a,d,(Int.tmod (c:Int) 4),0,0)))) (some (b,l,dg,x,q,a,d,0,0,0))))=some (b,l,dg,x,q,a,d,((mksT (dm a d) c k n).1:Int),((mksT (dm a d) c k n).2.1:Int),((mksT (dm a d) c k n).2.2:Int)):=by
  intro a d _;have hc:=ng a d;have:dm a d=1\/dm a d=2\/dm a d=3:=by omega
  rw[cL,cL,cL,cL];rcases this with h | h | h<;>rw[h]<;>rfl
 unfold aE;rw[e];simp only[ob,d4];rw[gH];by_cases y:q=0
 ·rw[ad y];rw[uK m _ _ _ _ _ f _ _ _ _ Q];have I:=xF (show f%40<40 by omega);show ∃v D u C A w d,cond (!(monT (f%40)==[])) _ _=_/\_;by_cases p:monT (f%40)=[]
  ·refine⟨b,l,dg,x,q,[],[],?_,z,G,t,s,λh=>absurd y h,λ_=>p.symm,.inl rfl⟩;rw[p];exact j [] [] none
  ·rw[aN.2 p];show ∃v D u C A w d,ob (aH (m+300) b l dg x q (monT (f%40)) [] 0 0 0) _=_/\_;rw[jp (m+300) (by omega)];show ∃v D u C A w d,cond (sea (monT (f%40))==0) _ _=_/\_;rw[gH];by_cases hs:sea (monT (f%40))=0
   ·rw[ad hs];have B:=I hs p;rw[CS m _ _ _ _ _ _ F _ _ _ (monT (f%40)) B O];exact⟨b,l,dg,x,q,monT (f%40),dayT (F%40) (monT (f%40)),j _ _ none,z,G,t,s,λh=>absurd y h,λ_=>rfl,.inr ⟨B,p,hs,rfl⟩⟩
   ·rw[ab hs];exact⟨b,l,dg,x,q,monT (f%40),[],j _ [] none,z,G,t,s,λh=>absurd y h,λ_=>rfl,.inl rfl⟩
 ·rw[ab y];exact⟨b,l,dg,x,q,[],[],j [] [] none,z,G,t,s,λ_=>⟨rfl,rfl⟩,λh=>absurd h y,.inl rfl⟩
def Dy:((List.range 34).all λj=>!hasX (monT j))=true:=by decide +kernel
def C9:(((List.range 12).map λi=>two (i+1)).all λa=>(List.range 32).all λj=>!hasX (dayT j a))=true:=by decide +kernel
def K0:((((List.range 12).map λi=>two (i+1))++[[48,88],[49,88],[88,50],[88,88],[88,48],[88,57]]).all λa=>hasX a||decide (a∈(List.range 12).map λi=>two (i+1)))=true:=by decide +kernel
def Le(m F k y B n j u o s:Nat)(g:Bool)(z:k<65536)(E:y<256)(N:B<256)(P:n<256)(O:j<256)(K:F%6≠3)(T:n%40<=33)(S:j%40<=31):
  ∃t l dg x q a d k0 k1 k2,aE (m+300) (F:Int) g (k:Int) (y:Int) (B:Int) (n:Int) (j:Int) (u:Int) (o:Int) (s:Int)=some (t,l,dg,x,q,a,d,((k0:Nat):Int),((k1:Nat):Int),((k2:Nat):Int))/\
   0<=q/\chkF t l dg x 0 a d (k0:Int) (k1:Int) (k2:Int)=0/\exD dg a d 0=true/\a.length<=18/\d.length<=18/\dg.length<=100:=by
 obtain⟨t,l,dg,x,q,a,d,e,H,R,A,M,w,r,v⟩:=Es m F k y B n j u o s g z E N P O;have L:=A K;have c:hasX a=false:=by
  by_cases h:q=0
  ·rw[r h];have:=(ch.1 Dy) (n%40) (ij.2 (by omega));simpa using this
  ·rw[(w h).1];rfl
 have f:a=[]\/0<sea a\/(sea a=0/\dq a 12=true):=by
  by_cases h:q=0
  ·rw[r h];exact GG (by omega)
  ·exact .inl (w h).1
 have b:d=[]\/(a≠[]/\sea a=0/\dq d 31=true/\fitD a d=true/\hasX d=false):=by
  rcases v with h | ⟨i,C,hs,p⟩
  ·exact .inl h
  ·have I:=EA (show j%40<40 by omega) i;have k:=Az (show j%40<40 by omega) i;rw[<-p]at I k;by_cases D:d=[]
   ·exact .inl D
   ·right;refine⟨C,hs,I.resolve_left D,k.resolve_left D,?_⟩;have G:=(ch.1 K0) a i;rw[c,sU,cA]at G;have J:=(ch.1 ((ch.1 C9) a G)) (j%40) (ij.2 (by omega));rw[p];simpa using J
 have hc:chkD t l dg x 0 a d ((mksT (dm a d) u o s).1:Int) ((mksT (dm a d) u o s).2.1:Int) ((mksT (dm a d) u o s).2.2:Int)=0:=
  yy (OJ H) R (λh=>absurd h (by omega)) f (by
   rcases b with h | ⟨Q,z,E,_⟩
   ·exact .inl h
   ·exact .inr ⟨Q,z,E⟩) (tf _ _ _ _)
 refine⟨t,l,dg,x,q,a,d,_,_,_,e,G9 H,BU hc ?_,?_,?_,?_,by omega⟩
 ·rcases b with h | ⟨_,_,_,h,_⟩
  ·exact .inl h
  ·exact .inr h
 ·unfold exD;have:hasX d=false:=by
   rcases b with h | ⟨_,_,_,_,h⟩
   ·rw[h];rfl
   ·exact h
  rw[L,c,this];rfl
 ·rcases f with h | h | ⟨_,h⟩
  ·rw[h];simp
  ·have:=(zP h).1;omega
  ·have:=(kD (by omega) h).1;omega
 ·rcases b with h | ⟨_,_,h,_⟩
  ·rw[h];simp
  ·have:=(kD (by omega) h).1;omega
def Ci(m n w u v c k E C D:Nat)(g:Bool)(X:n<256)(J:w<65536)(T:u<256)(P:v<256)(Z:c<256)(Y:k<256):
  ∃p l dg x i d k0 k1 k2,bg (m+300) (n:Int) g (w:Int) (u:Int) (v:Int) (c:Int) (k:Int) (E:Int) (C:Int) (D:Int)=some (p,l,dg,x,0,i,d,((k0:Nat):Int),((k1:Nat):Int),((k2:Nat):Int))/\
   chkF p l dg x 0 i d (k0:Int) (k1:Int) (k2:Int)=0/\exD dg i d 0=true/\i.length<=18/\d.length<=18/\dg.length<=100:=by
 have O:Int.tmod (c:Int) 40=((c%40:Nat):Int):=rfl;have S:Int.tmod (k:Int) 40=((k%40:Nat):Int):=rfl;have M:Int.tmod (n:Int) 6=((n%6:Nat):Int):=rfl;have Q:Int.tdiv ((k%40:Nat):Int) 2=((k%40 / 2:Nat):Int):=rfl;have fin:∀(s f b:Nat),f<256->b<256->s%6≠3->f%40<=33->b%40<=31->
   ∃p l dg x i d k0 k1 k2,(ob (aE (m+300) (s:Int) g (w:Int) (u:Int) (v:Int) (f:Int) (b:Int) (E:Int) (C:Int) (D:Int)) λa=>(cond (decide ((d4 a).1>0)) (some (a.1,a.2.1,a.2.2.1,a.2.2.2.1,(0:Int),(d4 a).2.1,(d4 a).2.2.1,(d4 a).2.2.2.1,(d8 a).1,(d8 a).2)) (some (a.1,a.2.1,a.2.2.1,a.2.2.2.1,(d4 a).1,(d4 a).2.1,(d4 a).2.2.1,(d4 a).2.2.2.1,(d8 a).1,(d8 a).2))))=some (p,l,dg,x,0,i,d,((k0:Nat):Int),((k1:Nat):Int),((k2:Nat):Int))/\
   chkF p l dg x 0 i d (k0:Int) (k1:Int) (k2:Int)=0/\exD dg i d 0=true/\i.length<=18/\d.length<=18/\dg.length<=100:=by
  intro s f b c5 c6 G o r;obtain⟨p,l,dg,x,q,i,d,k0,k1,k2,e,W,H,R,I,r4,U⟩:=Le m s w u v f b E C D g J T P c5 c6 G o r;refine⟨p,l,dg,x,i,d,k0,k1,k2,?_,H,R,I,r4,U⟩;rw[e];simp only[ob,d4,d8];by_cases h:q>0
  ·rw[au h];rfl
  ·obtain rfl:q=0:=by omega
   rw[ar h];rfl
 have z:33<c%40->wrap .u8 (((c%40:Nat):Int) - 33)=((c%40 - 33:Nat):Int):=λh=>by rw[en _ (by omega) (by omega)];omega
 have L:wrap .u8 ((k%40 / 2:Nat):Int)=((k%40 / 2:Nat):Int):=en _ (by omega) (by omega);unfold bg;rw[M,O,S,Q,L];have j:∀s:Nat,s%6≠3->∀K:Nat->Nat->Option (Bool×Bool×aa×Int×Int×aa×aa×Int×Int×Int),
   (∀f b:Nat,f<256->b<256->f%40<=33->b%40<=31->∃p l dg x i d k0 k1 k2,K f b=some (p,l,dg,x,0,i,d,((k0:Nat):Int),((k1:Nat):Int),((k2:Nat):Int))/\chkF p l dg x 0 i d (k0:Int) (k1:Int) (k2:Int)=0/\exD dg i d 0=true/\i.length<=18/\d.length<=18/\dg.length<=100)->
   ∃p l dg x i d k0 k1 k2,(cond (decide (((c%40:Nat):Int)>33)) (cond (decide (((k%40:Nat):Int)>31)) (K (c%40 - 33) (k%40 / 2)) (K (c%40 - 33) k)) (cond (decide (((k%40:Nat):Int)>31)) (K c (k%40 / 2)) (K c k)))=some (p,l,dg,x,0,i,d,((k0:Nat):Int),((k1:Nat):Int),((k2:Nat):Int))/\chkF p l dg x 0 i d (k0:Int) (k1:Int) (k2:Int)=0/\exD dg i d 0=true/\i.length<=18/\d.length<=18/\dg.length<=100:=by
  intro s N K y;by_cases V:33<c%40
  ·rw[au (show((c%40:Nat):Int)>33 by omega)];by_cases B:31<k%40
   ·rw[au (show((k%40:Nat):Int)>31 by omega)];exact y _ _ (by omega) (by omega) (by omega) (by omega)
   ·rw[ar (show¬((k%40:Nat):Int)>31 by omega)];exact y _ _ (by omega) (by omega) (by omega) (by omega)
  ·rw[ar (show¬((c%40:Nat):Int)>33 by omega)];by_cases B:31<k%40
   ·rw[au (show((k%40:Nat):Int)>31 by omega)];exact y _ _ (by omega) (by omega) (by omega) (by omega)
   ·rw[ar (show¬((k%40:Nat):Int)>31 by omega)];exact y _ _ (by omega) (by omega) (by omega) (by omega)
 have w5':∀{A:Type} (F:Int->Int->Option A) (b:Nat),(cond (decide (((c%40:Nat):Int)>33)) (F (wrap .u8 (((c%40:Nat):Int) - 33)) (b:Int)) (F (c:Int) (b:Int)))=(cond (decide (((c%40:Nat):Int)>33)) (F ((c%40 - 33:Nat):Int) (b:Int)) (F (c:Int) (b:Int))):=by
  intro A F b;by_cases h:33<c%40
  ·rw[z h]
  ·rw[ar (show¬((c%40:Nat):Int)>33 by omega)];rfl
 have t:33<c%40\/¬33<c%40:=by omega
 by_cases c3:n%6=3
 ·rw[show(((n%6:Nat):Int)==3)=true by rw[c3];rfl];simp only[am];rcases t with h | h
  ·rw[z h];exact j 0 (by omega) (λf b=>_) (λf b c5 c6 o r=>fin 0 f b c5 c6 (by omega) o r)
  ·have hx:=j 0 (by omega) (λf b=>_) (λf b c5 c6 o r=>fin 0 f b c5 c6 (by omega) o r);rw[ar (show¬((c%40:Nat):Int)>33 by omega)]at hx ⊢;exact hx
 ·rw[show(((n%6:Nat):Int)==3)=false from aN.2 (by omega)];simp only[af];by_cases c4:n%6=4
  ·rw[show(((n%6:Nat):Int)==4)=true by rw[c4];rfl];simp only[am];rcases t with h | h
   ·rw[z h];exact j 0 (by omega) (λf b=>_) (λf b c5 c6 o r=>fin 0 f b c5 c6 (by omega) o r)
   ·have hx:=j 0 (by omega) (λf b=>_) (λf b c5 c6 o r=>fin 0 f b c5 c6 (by omega) o r);rw[ar (show¬((c%40:Nat):Int)>33 by omega)]at hx ⊢;exact hx
  ·rw[show(((n%6:Nat):Int)==4)=false from aN.2 (by omega)];simp only[af];rcases t with h | h
   ·rw[z h];exact j n c3 (λf b=>_) (λf b c5 c6 o r=>fin n f b c5 c6 c3 o r)
   ·have hx:=j n c3 (λf b=>_) (λf b c5 c6 o r=>fin n f b c5 c6 c3 o r);rw[ar (show¬((c%40:Nat):Int)>33 by omega)]at hx ⊢;exact hx
def Fg{dg m d:aa}(h:exD dg m d 0=true):exD dg m [] 0=true/\exD dg [] [] 0=true:=by
 unfold exD at h ⊢;simp only[aC,jd,Bn]at h;obtain⟨⟨b,a,c⟩,_⟩:=h;rw[b,a];exact⟨rfl,rfl⟩
def zL(g l:Bool)(dg:aa)(x q:Int)(m d:aa)(k0 k1 k2:Int):Bool:=
 (((g==false)&&((l==false)&&((dg==([]:aa))&&((x==0)&&((q==0)&&true)))))&&((m==([]:aa))&&((d==([]:aa))&&(((k0==0)&&((k1==0)&&((k2==0)&&true)))&&true))))
noncomputable def chkB(K:Int)(g l:Bool)(dg:aa)(x q:Int)(m d:aa)(k0 k1 k2:Int):Int:=
 if K=1 then(if chkF g l dg x q m d k0 k1 k2=0 then(if exD dg m d q=true then 0 else 11)else chkF g l dg x q m d k0 k1 k2)else if K=2\/K=3 then(if zL g l dg x q m d k0 k1 k2=true then 0 else 5)else 18
def Ad(b d a c lo hi:Int):Int:=if b≠0 then b else if d≠0 then d else if a≠1/\c≠1 then 11 else if a≠1\/c≠1 then 0 else if lo>hi then 11 else 0
section
variable {K:Int} {g l:Bool} {dg:List UInt8} {x q:Int} {m d:List UInt8} {k0 k1 k2:Int} (hml:m.length<=18) (hdl:dg.length<=100) (hd18:d.length<=18) (h0:0<=k0) (h1:0<=k1) (h2:0<=k2)
include hml hdl hd18 h0 h1 h2
def A6:jD 20000000 K g l dg x q m d k0 k1 k2=some (chkB K g l dg x q m d k0 k1 k2):=by
 unfold jD chkB;rw[vH hml hdl h0 h1 h2,A2 20000000 g l dg x q m d k0 k1 k2 (by omega) (by omega) (by omega)];simp only[ob];by_cases a:K=1
 ·subst a;rw[ad rfl];simp only[BEq.rfl,am];by_cases hc:chkF g l dg x q m d k0 k1 k2=0
  ·rw[ad hc,hc];by_cases c:exD dg m d q=true
   ·rw[ad c,c];rfl
   ·rw[ab c];rw[Bg]at c;rw[c];rfl
  ·rw[ab hc,bne0 hc];rfl
 ·rw[ab a,aN.2 a];simp only[af];have f:(!(((g==false)&&((l==false)&&((dg==([]:aa))&&((x==0)&&((q==0)&&true)))))&&((m==([]:aa))&&((d==([]:aa))&&(((k0==0)&&((k1==0)&&((k2==0)&&true)))&&true)))))=!(zL g l dg x q m d k0 k1 k2):=rfl;rw[f];by_cases b:K=2
  ·subst b;rw[ad (.inl rfl)];cases zL g l dg x q m d k0 k1 k2<;>rfl
  ·rw[aN.2 b];by_cases e:K=3
   ·subst e;rw[ad (.inr rfl)];cases zL g l dg x q m d k0 k1 k2<;>rfl
   ·rw[aN.2 e,ab (by omega)];rfl
def tW:dB 20000000 K g l dg x q m d k0 k1 k2=some (chkB K g l dg x q m d k0 k1 k2):=by
 unfold dB chkB;rw[tC hdl h0 h1 h2,yf 20000000 g l dg x q m d k0 k1 k2 (by omega) (by omega) (by omega) (by omega)];simp only[ob];by_cases a:K=1
 ·subst a;rw[ad rfl];simp only[BEq.rfl,am];by_cases hc:chkF g l dg x q m d k0 k1 k2=0
  ·rw[ad hc,hc];by_cases e:exD dg m d q=true
   ·rw[ad e,ad e];rfl
   ·rw[ab e,ab e];rfl
  ·rw[ab hc,aN.2 hc];rfl
 ·rw[ab a,aN.2 a];simp only[af];have f:(!(((g==false)&&((l==false)&&((dg==([]:aa))&&((x==0)&&((q==0)&&true)))))&&((m==([]:aa))&&((d==([]:aa))&&(((k0==0)&&((k1==0)&&((k2==0)&&true)))&&true)))))=!(zL g l dg x q m d k0 k1 k2):=rfl;rw[f];by_cases b:K=2
  ·subst b;rw[ad (.inl rfl)];cases zL g l dg x q m d k0 k1 k2<;>rfl
  ·rw[aN.2 b];by_cases c:K=3
   ·subst c;rw[ad (.inr rfl)];cases zL g l dg x q m d k0 k1 k2<;>rfl
   ·rw[aN.2 c,ab (by omega)];rfl
def rz(hc:chkB K g l dg x q m d k0 k1 k2=0)(b:K=1):chkF g l dg x q m d k0 k1 k2=0/\exD dg m d q=true:=by
 have c:=And.intro hml (And.intro hdl (And.intro hd18 (And.intro h0 (And.intro h1 h2))));unfold chkB at hc;rw[ad b]at hc;by_cases h:chkF g l dg x q m d k0 k1 k2=0
 ·rw[ad h]at hc;by_cases a:exD dg m d q=true
  ·exact⟨h,a⟩
  ·rw[ab a]at hc;cases hc
 ·rw[ab h]at hc;exact absurd hc h
end
def OL(n:Nat)(a b:Int):gK n a b=some (if a<b then -1 else if a>b then 1 else 0):=by
 unfold gK iO;simp only[ob,eG,af];by_cases h:a<b
 ·rw[au h,ad h];rfl
 ·rw[ar h,ab h];by_cases c:a>b
  ·rw[au c,ad c];rfl
  ·rw[ar c,ab c];rfl
def BK(a b:Int):∃r,io 20000000 0 a 0 b=some r/\decide (r>0)=decide (a>b):=by
 have g:jX 20000000 0 0=some 0:=rfl;have d:lM 20000000 [0,-1]=some (-1):=by kernel_rfl
 have f:lM 20000000 [0,1]=some 1:=by kernel_rfl
 have e:lM 20000000 [0,0]=some 0:=by kernel_rfl
 unfold io;rw[g,OL];simp only[ob];by_cases h:a<b
 ·rw[ad h,d];exact⟨_,rfl,by rw[ar (show¬a>b by omega)];rfl⟩
 ·rw[ab h];by_cases c:a>b
  ·rw[ad c,f];exact⟨_,rfl,by rw[au c];rfl⟩
  ·rw[ab c,e];exact⟨_,rfl,by rw[ar c];rfl⟩
def bne1{K:Int}(h:K≠1):(K != 1)=true:=by simp[h]
section
variable {K:Int} {g l:Bool} {dg:List UInt8} {x q:Int} {m d:List UInt8} {k0 k1 k2:Int} {K':Int} {g' l':Bool} {dg':List UInt8} {x' q':Int} {m' d':List UInt8} {p0 p1 p2:Int} (hml:m.length<=18) (hdl:dg.length<=100) (hd18:d.length<=18) (h0:0<=k0) (h1:0<=k1) (h2:0<=k2) (hml':m'.length<=18) (hdl':dg'.length<=100) (hd18':d'.length<=18) (h0':0<=p0) (h1':0<=p1) (h2':0<=p2)
include hml hdl hd18 h0 h1 h2 hml' hdl' hd18' h0' h1' h2'
def Lp:kR 20000000 K g l dg x q m d k0 k1 k2 K' g' l' dg' x' q' m' d' p0 p1 p2=some (Ad (chkB K g l dg x q m d k0 k1 k2) (chkB K' g' l' dg' x' q' m' d' p0 p1 p2) K K' (lg g dg x m d).1 (lg g' dg' x' m' d').2):=by
 unfold kR Ad;rw[A6 hml hdl hd18 h0 h1 h2,A6 hml' hdl' hd18' h0' h1' h2'];simp only[ob];by_cases b:chkB K g l dg x q m d k0 k1 k2=0
 ·rw[ab (by omega),b];by_cases c:chkB K' g' l' dg' x' q' m' d' p0 p1 p2=0
  ·rw[ab (by omega),c];simp only[eG,af];by_cases e:K=1
   ·rw[show(K != 1)=false by rw[e];rfl];simp only[af];by_cases a:K'=1
    ·rw[show(K' != 1)=false by rw[a];rfl,ab (by omega),ab (by omega)];simp only[af];obtain⟨o,k⟩:=rz hml hdl hd18 h0 h1 h2 b e;obtain⟨i,f⟩:=rz hml' hdl' hd18' h0' h1' h2' c a;rw[Af hml hdl hd18 h0 h1 h2,Af hml' hdl' hd18' h0' h1' h2',ad o,ad k,ad i,ad f];simp only[ob];obtain⟨r,n,j⟩:=BK (lg g dg x m d).1 (lg g' dg' x' m' d').2;rw[n];simp only[j];by_cases h:(lg g dg x m d).1>(lg g' dg' x' m' d').2
     ·rw[au h,ad h];rfl
     ·rw[ar h,ab h];rfl
    ·rw[bne1 a,ab (by omega),ad (by omega)];rfl
   ·rw[bne1 e];by_cases a:K'=1
    ·rw[show(K' != 1)=false by rw[a];rfl,ab (by omega),ad (by omega)];rfl
    ·rw[bne1 a,ad (by omega)];rfl
  ·rw[ad c,bne0 c];rfl
 ·rw[ad b,bne0 b];rfl
def IH:dW 20000000 K g l dg x q m d k0 k1 k2 K' g' l' dg' x' q' m' d' p0 p1 p2=some (Ad (chkB K g l dg x q m d k0 k1 k2) (chkB K' g' l' dg' x' q' m' d' p0 p1 p2) K K' (lg g dg x m d).1 (lg g' dg' x' m' d').2):=by
 unfold dW Ad;rw[tW hml hdl hd18 h0 h1 h2,tW hml' hdl' hd18' h0' h1' h2'];simp only[ob];by_cases c:chkB K g l dg x q m d k0 k1 k2=0
 ·rw[ab (by omega),c];by_cases e:chkB K' g' l' dg' x' q' m' d' p0 p1 p2=0
  ·rw[ab (by omega),e];simp only[eG,af];by_cases b:K=1
   ·rw[show(K != 1)=false by rw[b];rfl,show(K==1)=true by rw[b];rfl];simp only[af,am];by_cases a:K'=1
    ·rw[show(K'==1)=true by rw[a];rfl,ab (by omega),ab (by omega)];simp only[am];obtain⟨o,n⟩:=rz hml hdl hd18 h0 h1 h2 c b;obtain⟨i,f⟩:=rz hml' hdl' hd18' h0' h1' h2' e a;obtain⟨rfl,j⟩:=rx o n;obtain⟨rfl,k⟩:=rx i f;rw[qD j hdl,qD k hdl'];simp only[ob];by_cases h:(lg g dg x m d).1>(lg g' dg' x' m' d').2
     ·rw[au h,ad h];rfl
     ·rw[ar h,ab h];rfl
    ·rw[aN.2 a,ab (by omega),ad (by omega)];rfl
   ·rw[bne1 b,aN.2 b];by_cases a:K'=1
    ·rw[show(K' != 1)=false by rw[a];rfl,ab (by omega),ad (by omega)];rfl
    ·rw[bne1 a,ad (by omega)];rfl
  ·rw[ad e,bne0 e];rfl
 ·rw[ad c,bne0 c];rfl
end
def yG(y:Int){m:Nat}(b:1<=m)(d:m<=23):dayM y m<dayM y (m+1):=by
 by_cases h:m<=12
 ·have:=tU y b h;have:=gG y (m:Int);omega
 ·have c:=pY y (m:=m - 12) (by omega) (by omega);have a:=pY y (m:=m - 12+1) (by omega) (by omega);have e:=tU (y+1) (m:=m - 12) (by omega) (by omega);have:=gG (y+1) ((m - 12:Nat):Int);rw[show m - 12+12=m by omega]at c;rw[show m - 12+1+12=m+1 by omega]at a;omega
def Gk(y:Int){a:Nat}(b:1<=a):∀c,1<=c->a+c<=24->dayM y a<dayM y (a+c)
 | 0,h,_=>absurd h (by omega)
 | c+1,_,d=>by
  have hs:=yG y (m:=a+c) (by omega) (by omega);by_cases h:c=0
  ·subst h;exact hs
  ·have:=Gk y b c (by omega) (by omega);rw[show a+(c+1)=a+c+1 by omega];omega
def JP{g l:Bool}{dg:aa}{x:Int}{m d:aa}(E:Exact g l dg x m d):(lg g dg x m d).1<=(lg g dg x m d).2:=by
 unfold lg;by_cases a:m=[]
 ·rw[ad a];have:=rQ (yOf g dg x);simp only[];split at this<;>omega
 ·rw[ab a];by_cases hs:0<sea m
  ·rw[ad hs];rcases E.mon with h | ⟨j,b,e,_⟩ | ⟨h,_⟩
   ·exact absurd h a
   ·obtain⟨f,c,_,i,o,q,r,_,n,p⟩:=Ah b;rw[e,n,p];have:=Gk (yOf g dg x) i c (by omega) (by omega);simp only[];omega
   ·omega
  ·rw[ab hs];rcases E.mon with h | ⟨j,b,e,_⟩ | ⟨_,i,o,_⟩
   ·exact absurd h a
   ·rw[e,iJ b]at hs;omega
   ·by_cases k:d=[]
    ·rw[ad k];have:=yG (yOf g dg x) i (by omega);simp only[];omega
    ·rw[ab k];exact pX _
def B_of(m a q j n i r p s t h:Nat)(g:Bool)(D:q<256)(z:j<65536)(w:n<256)(A:i<256)(y:r<256)(E:p<256):
  ∃K c l dg x b d k0 k1 k2,bG (m+300) (a:Int) (q:Int) g (j:Int) (n:Int) (i:Int) (r:Int) (p:Int) (s:Int) (t:Int) (h:Int)=some (K,c,l,dg,x,0,b,d,((k0:Nat):Int),((k1:Nat):Int),((k2:Nat):Int))/\
   chkB K c l dg x 0 b d (k0:Int) (k1:Int) (k2:Int)=0/\b.length<=18/\d.length<=18/\dg.length<=100/\(K=1\/((K=2\/K=3)/\c=false/\l=false/\dg=[]/\x=0/\b=[]/\d=[]/\k0=0/\k1=0/\k2=0)):=by
 have v:Int.tmod (a:Int) 6=((a%6:Nat):Int):=rfl;unfold bG;rw[v];by_cases u:a%6=0
 ·rw[u];exact⟨2,false,false,[],0,[],[],0,0,0,rfl,rfl,by simp,by simp,by simp,.inr ⟨.inl rfl,rfl,rfl,rfl,rfl,rfl,rfl,rfl,rfl,rfl⟩⟩
 ·rw[show(((a%6:Nat):Int)==0)=false from aN.2 (by omega)];by_cases B:a%6=1
  ·rw[B];exact⟨3,false,false,[],0,[],[],0,0,0,rfl,rfl,by simp,by simp,by simp,.inr ⟨.inr rfl,rfl,rfl,rfl,rfl,rfl,rfl,rfl,rfl,rfl⟩⟩
  ·rw[show(((a%6:Nat):Int)==1)=false from aN.2 (by omega)];obtain⟨c,l,dg,x,b,d,k0,k1,k2,e,hc,C,k,f,o⟩:=Ci m q j n i r p s t h g D z w A y E;refine⟨1,c,l,dg,x,b,d,k0,k1,k2,?_,?_,k,f,o,.inl rfl⟩
   ·simp only[af];rw[e];rfl
   ·unfold chkB;rw[ad rfl,ad hc,ad C]
def smT(x:TD):Prop:=x.2.2.2.2.2.1.length<=18/\x.2.2.1.length<=100/\x.2.2.2.2.2.2.1.length<=18/\0<=x.2.2.2.2.2.2.2.1/\0<=x.2.2.2.2.2.2.2.2.1/\0<=x.2.2.2.2.2.2.2.2.2
noncomputable def cF(x:TD):Int:=chkF x.1 x.2.1 x.2.2.1 x.2.2.2.1 x.2.2.2.2.1 x.2.2.2.2.2.1 x.2.2.2.2.2.2.1 x.2.2.2.2.2.2.2.1 x.2.2.2.2.2.2.2.2.1 x.2.2.2.2.2.2.2.2.2
def exT(x:TD):Bool:=exD x.2.2.1 x.2.2.2.2.2.1 x.2.2.2.2.2.2.1 x.2.2.2.2.1
def dyT(x:TD):Int×Int:=lg x.1 x.2.2.1 x.2.2.2.1 x.2.2.2.2.2.1 x.2.2.2.2.2.2.1
def seT(x:TD):Int:=sea x.2.2.2.2.2.1
def coT(x:TD):Nat:=dm x.2.2.2.2.2.1 x.2.2.2.2.2.2.1
noncomputable def plT(x:TD):Bool:=decide (cF x=0)&&(exT x&&!decide (0<seT x))
def wC:smT d0:=by unfold smT;simp
def fcT{x:TD}(h:smT x):ap10 (bi 20000000) x=some (cF x):=vH h.1 h.2.1 h.2.2.2.1 h.2.2.2.2.1 h.2.2.2.2.2
def rcT{x:TD}(h:smT x):ap10 (bq 20000000) x=some (cF x):=tC h.2.1 h.2.2.2.1 h.2.2.2.2.1 h.2.2.2.2.2
def reT{x:TD}(h:smT x):ap10 (aU 20000000) x=some (if exT x then 1 else 0):=by
 obtain⟨a,b,c,_⟩:=h;exact yf 20000000 _ _ _ _ _ _ _ _ _ _ (by omega) (by omega) (by omega) (by omega)
def rsT(x:TD):ap10 (aH 20000000) x=some (seT x):=jp 20000000 (by omega) _ _ _ _ _ _ _ _ _ _
def rcoT(x:TD):ap10 (ah 20000000) x=some ((coT x:Nat):Int):=cL 20000000 _ _ _ _ _ _ _ _ _ _
def fpT{x:TD}(h:smT x):ap10 (aX 20000000) x=some (if x.2.2.2.2.2.2.1=[]then(if 0<seT x then 0 else if x.2.2.2.2.2.1=[]then 1 else 2)else 3):=Fh 20000000 _ _ _ _ _ _ _ _ _ _ h.1
def fmT{x:TD}(h:smT x):ap10 (d5 20000000) x=some (hasX x.2.2.1||(hasX x.2.2.2.2.2.1||hasX x.2.2.2.2.2.2.1)):=by
 obtain⟨a,b,c,_⟩:=h;exact yC 20000000 _ _ _ _ _ _ _ _ _ _ (by omega) (by omega) (by omega)
def fdT{x:TD}(h:smT x):ap10 (eM 20000000) x=some (if cF x=0 then(if exT x=true then(0,(dyT x).1,0,(dyT x).2,0)else(0,0,0,0,1))else(0,0,0,0,cF x)):=Af h.1 h.2.1 h.2.2.1 h.2.2.2.1 h.2.2.2.2.1 h.2.2.2.2.2
def Gp{x:TD}(hc:cF x=0)(a:exT x=true):x.2.2.2.2.1=0/\Exact x.1 x.2.1 x.2.2.1 x.2.2.2.1 x.2.2.2.2.2.1 x.2.2.2.2.2.2.1:=rx hc a
def rdT{x:TD}(h:smT x)(hc:cF x=0)(b:exT x=true):ap10 (aQ 20000000) x=some (dyT x):=by
 obtain⟨a,E⟩:=Gp hc b;have:=qD (k0:=x.2.2.2.2.2.2.2.1) (k1:=x.2.2.2.2.2.2.2.2.1) (k2:=x.2.2.2.2.2.2.2.2.2) E h.2.1;rw[<-a]at this;exact this
def Je{x:TD}(hc:cF x=0)(a:exT x=true):(dyT x).1<=(dyT x).2:=JP (Gp hc a).2
def ou{x:TD}(hc:cF x=0):(x.2.2.2.2.2.1=[]\/x.2.2.2.2.2.1.length=2)/\(x.2.2.2.2.2.2.1=[]\/x.2.2.2.2.2.2.1.length=2)/\(x.2.2.2.2.2.2.1≠[]->x.2.2.2.2.2.1≠[]/\seT x=0):=by
 obtain⟨_,a,b,_,c⟩:=lK (sF hc);exact⟨a,b,c⟩
def eZ{x y:TD}:eqD x y=true↔x=y:=by
 obtain⟨p,m,j,k,c,s,n,g,l,b⟩:=x;obtain⟨d,f,i,r,t,q,e,h,o,a⟩:=y;simp[and_assoc]
def AQ{x:TD}(h:smT x):kN 20000000 x=some (exT x):=by
 unfold kN;rw[fmT h];simp only[ob,exT,exD];cases(hasX x.2.2.1||(hasX x.2.2.2.2.2.1||hasX x.2.2.2.2.2.2.1))<;>rfl
def vG{x:TD}(h:smT x):jf 20000000 x=some (plT x):=by
 unfold jf plT;rw[fcT h,AQ h,fpT h];simp only[ob];by_cases hc:cF x=0
 ·rw[hc];cases d:exT x
  ·rfl
  ·show some ((if _ then _ else _) != (0:Int))=some (true&&(true&&!decide (0<seT x)));obtain⟨_,_,c⟩:=ou hc;by_cases a:x.2.2.2.2.2.2.1=[]
   ·rw[ad a];by_cases hs:0<seT x
    ·rw[ad hs,au hs];rfl
    ·rw[ab hs,ar hs];by_cases b:x.2.2.2.2.2.1=[]
     ·rw[ad b];rfl
     ·rw[ab b];rfl
   ·rw[ab a,(c a).2];rfl
 ·rw[ar hc,show(cF x==0)=false from by simp[hc]];rfl
def ox{x:TD}(h:smT x):aW 20000000 x=some (if plT x then 1 else 0):=by
 unfold aW plT;rw[rcT h,reT h,rsT x];simp only[ob];by_cases hc:cF x=0
 ·rw[hc];cases b:exT x
  ·rfl
  ·by_cases hs:0<seT x
   ·have a:decide (seT x>0)=true:=au hs;rw[au hs];rfl
   ·have a:decide (seT x>0)=false:=ar hs;rw[ar hs];rfl
 ·rw[ar hc,show(cF x != 0)=true from by simp[hc]];rfl
def gR{x:TD}:plT x=true↔cF x=0/\exT x=true/\¬0<seT x:=by
 unfold plT;simp[and_assoc]
noncomputable def ordB(x y:TD):Bool:=(plT x&&plT y)&&(decide (coT x=coT y)&&decide ((dyT x).1<=(dyT y).1))
def vc{x:TD}(hc:cF x=0)(hs:¬0<seT x):(if x.2.2.2.2.2.2.1=[]then(if 0<seT x then(0:Int)else if x.2.2.2.2.2.1=[]then 1 else 2)else 3)=((coT x:Nat):Int):=by
 obtain⟨_,_,c⟩:=ou hc;unfold coT dm;by_cases a:x.2.2.2.2.2.2.1=[]
 ·rw[ad a,ab hs];by_cases b:x.2.2.2.2.2.1=[]
  ·simp[b,a]
  ·simp[b,a]
 ·have b:=(c a).1;simp[a,b]
def DY{x y:TD}(hx:smT x)(hy:smT y):kn 20000000 x y=some (ordB x y):=by
 unfold kn ordB;rw[vG hx,vG hy];cases m:plT x
 ·rfl
 cases h:plT y
 ·rfl
 obtain⟨b,l,f⟩:=gR.1 m;obtain⟨e,g,i⟩:=gR.1 h;rw[fpT hx,fpT hy,fdT hx,fdT hy,vc b f,vc e i,ad b,ad e,ad l,ad g];simp only[ob,u5,u4,u3,u2,dD,af,AS,kP];by_cases a:coT x=coT y
 ·rw[a,au rfl];obtain⟨r,j,k⟩:=BK (dyT x).1 (dyT y).1;simp only[eG,af,j,kP];refine fc some ?_;have:decide (r<=0)=!decide (r>0):=by
   by_cases c:r<=0
   ·rw[au c,ar (by omega)];rfl
   ·rw[ar c,au (by omega)];rfl
  rw[this,k];by_cases d:(dyT x).1<=(dyT y).1
  ·rw[au d,ar (by omega)];rfl
  ·rw[ar d,au (by omega)];rfl
 ·have:(((coT x:Nat):Int) != ((coT y:Nat):Int))=true:=by simp;omega
  rw[this,ar a];rfl
noncomputable def itE(x:TD)(r:Bool)(y:TD)(all:Bool):Int:=
 if cF x≠0 then cF x else if r=true/\cF y≠0 then cF y else if r=false/\eqD y d0=false then 5 else if r=true/\ordB x y=false then 10 else if all=true/\exT x=false then 10 else 0
def xZ{x y:TD}(r:Bool)(hx:smT x)(hy:smT y)(K:Int)(hc:cF x=0)(a:¬(r=true/\cF y≠0)):di 20000000 5 10 10 x r y K=some (itE x r y (K==4)):=by
 unfold di m8 mY nz itE;rw[DY hx hy,AQ hx,ab (by simpa using hc),ab a];cases r
 ·generalize eqD y d0=z;cases z
  ·rfl
  ·cases(K==4)
   ·rfl
   ·cases exT x<;>rfl
 ·simp only[ob,dD,af,am,reduceCtorEq,tD,aG,ie];cases ordB x y
  ·rfl
  ·simp only[dD,af,Bool.true_eq_false,aG];cases(K==4)
   ·rfl
   ·cases exT x<;>rfl
def Fj{x y:TD}(r:Bool)(hx:smT x)(hy:smT y)(K:Int):fX 20000000 x r y K=some (if K=3\/K=4 then itE x r y (K==4)else 18):=by
 have b:(ob (ap10 (bi 20000000) x) λd=>(cond (d != 0) (some d) (cond r (ob (ap10 (bi 20000000) y) λf=>(cond (f != 0) (some f) (ob (di 20000000 5 10 10 x r y K) λh=>(some h)))) (ob (di 20000000 5 10 10 x r y K) λg=>(some g)))))=some (itE x r y (K==4)):=by
  rw[fcT hx];simp only[ob];by_cases hc:cF x=0
  ·rw[show(cF x != 0)=false from by simp[hc],af];cases r
   ·rw[xZ false hx hy K hc (by simp)];rfl
   ·rw[am,fcT hy];simp only;by_cases a:cF y=0
    ·rw[show(cF y != 0)=false from by simp[a],af,xZ true hx hy K hc (by simp[a])]
    ·rw[show(cF y != 0)=true from by simp[a],am];unfold itE;rw[ab (by simpa using hc),ad ⟨rfl,a⟩]
  ·rw[show(cF x != 0)=true from by simp[hc],am];unfold itE;rw[ad hc]
 unfold fX;by_cases c:K=3
 ·subst c;exact b.trans (by rfl)
 ·rw[show(K != 3)=true from by simp[c],am];by_cases e:K=4
  ·subst e;exact b.trans (by rfl)
  ·rw[show(K != 4)=true from by simp[e],am,ab (by omega)]
def Nq{x y:TD}{r all:Bool}(h:cF x≠0):itE x r y all=cF x:=ad h
def Jp{x y:TD}{all:Bool}(hc:cF x=0)(h:cF y≠0):itE x true y all=cF y:=by
 unfold itE;rw[ab (λh=>h hc),ad ⟨rfl,h⟩]
def Fo{x y:TD}{all:Bool}(hc:cF x=0):itE x false y all=if eqD y d0=false then 5 else if all=true/\exT x=false then 10 else 0:=by
 have b:(false=true/\cF y≠0)↔False:=by simp
 have a:(false=true/\ordB x y=false)↔False:=by simp
 have c:(false=false/\eqD y d0=false)↔eqD y d0=false:=by simp
 unfold itE;rw[ab (λh=>h hc)];simp only[b,a,aG,ie]
def Hy{x y:TD}{all:Bool}(hc:cF x=0)(hy:cF y=0):itE x true y all=if ordB x y=false then 10 else if all=true/\exT x=false then 10 else 0:=by
 have b:(true=true/\ordB x y=false)↔ordB x y=false:=by simp
 have a:(true=false/\eqD y d0=false)↔False:=by simp
 unfold itE;rw[ab (λh=>h hc),ab (λh=>h.2 hy)];simp only[a,aG,ie]
def MU(a b:Bool):(wrap .i64 ((if a then(1:Int)else 0)*(if b then(1:Int)else 0))==0)=!(a&&b):=by cases a<;>cases b<;>rfl
def Du{x y:TD}(r all:Bool)(hx:smT x)(hy:smT y):gA 20000000 x r y all=some (itE x r y all):=by
 have c:cond all (ob (ap10 (aU 20000000) x) λd=>(cond (d==0) (some 10) (some 0))) (some 0)=some (if all=true/\exT x=false then(10:Int)else 0):=by
  rw[reT hx];cases all
  ·rfl
  ·cases exT x<;>rfl
 unfold gA;simp only[c];simp only[rcT hx,rcT hy,ox hx,ox hy,rcoT,ob,MU];by_cases hc:cF x=0
 ·rw[show(cF x != 0)=false from by simp[hc],af];cases r
  ·simp only[af,jc,am];rw[Fo hc];generalize eqD y d0=z;cases z<;>rfl
  ·simp only[am,dD,af];by_cases a:cF y=0
   ·rw[show(cF y != 0)=false from by simp[a],af];rw[Hy hc a];unfold ordB;cases j:plT x
    ·simp
    cases g:plT y
    ·simp
    obtain⟨h,i,l⟩:=gR.1 j;obtain⟨k,f,m⟩:=gR.1 g;rw[rdT hx h i,rdT hy k f];simp only[u2,AS,dD,af,kP,ie];by_cases b:coT x=coT y
    ·rw[b,au rfl];simp only[eG,af,kP];by_cases e:(dyT x).1<=(dyT y).1
     ·rw[show decide ((dyT x).1>(dyT y).1)=false from ar (by omega),au e];simp
     ·rw[show decide ((dyT x).1>(dyT y).1)=true from au (by omega),ar e];simp
    ·have:(((coT x:Nat):Int) != ((coT y:Nat):Int))=true:=by simp;omega
     rw[this,ar b];simp
   ·rw[show(cF y != 0)=true from by simp[a],am];rw[Jp hc a]
 ·rw[show(cF x != 0)=true from by simp[hc],am];rw[Nq hc]
def kX{A:Type}(f:Nat->A->Int):Nat->List A->Option (Nat×Int)
 | _,[]=>none
 | i,t::r=>if f i t≠0 then some (i,f i t)else kX f (i+1) r
def nR{A X Y:Type}{step:X->Option (X⊕Y)}{st:Nat->X}{L:List A}{f:Nat->A->Int}{yes:Nat->Int->Y}{no:Y}
  (e:∀i t,L[i]?=some t->step (st i)=some (if f i t≠0 then .inr (yes i (f i t))else .inl (st (i+1)))) (c:step (st L.length)=some (.inr no)):
  ∀(r i:Nat),i+r=L.length->∀N,r<N->aw step N (st i)=some (match kX f i (L.drop i)with | some p=>yes p.1 p.2 | none=>no):=by
 intro r
 induction r with
 | zero=>
  intro i hi N g;obtain⟨N,rfl⟩:∃k,N=k+1:=⟨N - 1,by omega⟩;rw[aw,show i=L.length by omega,c,yP];rfl
 | succ r ih=>
  intro i hi N g;obtain⟨N,rfl⟩:∃k,N=k+1:=⟨N - 1,by omega⟩;have a:i<L.length:=by omega
  have d:L[i]?=some L[i]:=bj a;rw[aw,e i _ d,pF a,kX];by_cases b:f i L[i]≠0
  ·rw[ad b,ad b]
  ·rw[ab b,ab b];exact ih (i+1) (by omega) N (by omega)
abbrev rT(t:TI):Bool:=(d8 t).2.2.1
abbrev iT(t:TI):TD:=(d8 t).2.2.2
def smI(t:TI):Prop:=smT (iF t)/\smT (iT t)
noncomputable def itI(t:TI)(all:Bool):Int:=itE (iF t) (rT t) (iT t) all
noncomputable def endB(t:TI):Bool:=!rT t&&plT (iF t)
noncomputable def errI(K:Int)(e l:Bool)(n i:Nat)(t:TI):Int:=
 if itI t (K==4)≠0 then itI t (K==4)else if(e&&decide (i=0))&&!endB t||((l&&decide (i+1=n))&&!endB t||(e&&(l&&decide (n=1))))then 10 else 0
noncomputable def tL(K:Int)(e l:Bool)(L:List TI):Int×Int:=match kX (errI K e l L.length) 0 L with
 | some p=>((p.1:Int),p.2)
 | none=>(0,0)
def ly{i:Nat}(h:i<9223372036854775807):w64 ((i:Int)+1)=((i+1:Nat):Int):=by
 show wrap .i64 _=_;rw[wrap_i64 _ (by omega) (by omega)];omega
def zy{i:Nat}(a:0<i)(h:i<9223372036854775807):w64 ((i:Int) - 1)=((i - 1:Nat):Int):=by
 show wrap .i64 _=_;rw[wrap_i64 _ (by omega) (by omega)];omega
def natB(a b:Nat):(((a:Nat):Int)==((b:Nat):Int))=decide (a=b):=by
 by_cases h:a=b
 ·subst h;simp
 ·rw[ar h];simp;omega
def ze(a:Nat):(((a:Nat):Int)==0)=decide (a=0):=natB a 0
def Oo{x y:TD}(r:Bool)(hx:smT x):nr 20000000 x r y=some (!r&&plT x):=by
 unfold nr;rw[vG hx];cases r<;>rfl
def GN{K:Int}(k:K=3\/K=4){e l:Bool}{L:List TI}{i:Nat}{t:TI}(hi:L[i]?=some t)(hs:smI t)(o:L.length<=1000000)(D:TD)(KF:Int)(DF:TD)(KT:Int)(DT:TD):
  gS 20000000 (itI t (K==4)) 10 10 10 (iF t) (rT t) (iT t) K D KF DF KT DT e l (i:Int) (w64 (len L - 1)) L=some (errI K e l L.length i t):=by
 have m:i<L.length:=(lu.1 hi).1;have d:w64 (len L - 1)=((L.length - 1:Nat):Int):=zy (by omega) (by omega);have g:fX 20000000 (iF t) (rT t) (iT t) K=some (itI t (K==4)):=by
  rw[Fj _ hs.1 hs.2,ad k];rfl
 unfold gS mb mI mf ma errI;rw[g,d];simp only[Oo (rT t) hs.1,ob,ze,natB];have n:decide (i=L.length - 1)=decide (i+1=L.length):=by congr 1;exact propext (by omega)
 have j:decide (L.length - 1=0)=decide (L.length=1):=by congr 1;exact propext (by omega)
 rw[n,j];show cond (itI t (K==4) != 0) _ _=_;by_cases f:itI t (K==4)=0
 ·rw[ab (λh=>h f),show(itI t (K==4) != 0)=false from by simp[f],af];show _=some (if((e&&decide (i=0))&&!endB t||((l&&decide (i+1=L.length))&&!endB t||(e&&(l&&decide (L.length=1)))))=true then 10 else 0);unfold endB;generalize(!rT t&&plT (iF t))=z;generalize decide (i=0)=a;generalize decide (i+1=L.length)=b;generalize decide (L.length=1)=c;cases e<;>cases l<;>cases z<;>cases a<;>cases b<;>cases c<;>rfl
 ·rw[ad f,show(itI t (K==4) != 0)=true from by simp[f],am]
def Ih {K:Int} (g:K=3\/K=4) {e l:Bool} {L:List TI} (hs:∀t∈L,smI t) (j:L.length<=1000000) (D:TD) (KF:Int) (DF:TD) (KT:Int) (DT:TD):
  mq 20000000 K D KF DF KT DT e l L=some (tL K e l L):=by
 have:=nR (step:=fS 20000000) (st:=λi=>(len L,(i:Int),L,K,D,KF,DF,KT,DT,e,l,w64 (len L - 1))) (L:=L) (f:=errI K e l L.length) (yes:=λi q=>.inl ((i:Int),q)) (no:=.inr ())
  (λi t hi=>by
   have d:i<L.length:=(lu.1 hi).1;have a:=hs t (dY hi);have c:fX 20000000 (iF t) (rT t) (iT t) K=some (itI t (K==4)):=by
    rw [Fj _ a.1 a.2,ad g];rfl
   unfold fS;simp only [u12,u11,u10,u9,u8,u7,u6,u5,u4,u3,u2];rw [au (show (i:Int)<len L by unfold len;omega),cK d];simp only [am,ob,hi];rw [show fX 20000000 (iF t) (d8 t).2.2.1 (d8 t).2.2.2 K=some (itI t (K==4)) from c];simp only;rw [show gS 20000000 (itI t (K==4)) 10 10 10 (iF t) (d8 t).2.2.1 (d8 t).2.2.2 K D KF DF KT DT e l (i:Int) (w64 (len L - 1)) L=some (errI K e l L.length i t) from GN g hi a j D KF DF KT DT];simp only;rw [ly (by omega)];by_cases b:errI K e l L.length i t=0
   ·rw [ab (λh=>h b),show (errI K e l L.length i t != 0)=false from by simp [b]];rfl
   ·rw [ad b,show (errI K e l L.length i t != 0)=true from by simp [b]];rfl)
  (by
   unfold fS;simp only [u12,u11,u10,u9,u8,u7,u6,u5,u4,u3,u2];rw [ar (show ¬((L.length:Nat):Int)<len L by unfold len;omega)];rfl)
  L.length 0 (by omega) 20000000 (by omega)
 unfold mq tL;rw [gk] at this;show obs (aw (fS 20000000) 20000000 (len L,((0:Nat):Int),L,K,D,KF,DF,KT,DT,e,l,w64 (len L - 1))) _ _=_;rw [this];cases kX (errI K e l L.length) 0 L<;>rfl
noncomputable def oC(K:Int)(x:TD):Int:=chkB K x.1 x.2.1 x.2.2.1 x.2.2.2.1 x.2.2.2.2.1 x.2.2.2.2.2.1 x.2.2.2.2.2.2.1 x.2.2.2.2.2.2.2.1 x.2.2.2.2.2.2.2.2.1 x.2.2.2.2.2.2.2.2.2
noncomputable def oQ(K:Int)(x:TD)(a:Int)(y:TD):Int:=Ad (oC K x) (oC a y) K a (dyT x).1 (dyT y).2
def LE{x y:TD}(hx:smT x)(hy:smT y)(K a:Int):ap10 (ap10 (kR 20000000 K) x a) y=some (oQ K x a y):=
 Lp hx.1 hx.2.1 hx.2.2.1 hx.2.2.2.1 hx.2.2.2.2.1 hx.2.2.2.2.2 hy.1 hy.2.1 hy.2.2.1 hy.2.2.2.1 hy.2.2.2.2.1 hy.2.2.2.2.2
def yR{x y:TD}(hx:smT x)(hy:smT y)(K a:Int):ap10 (ap10 (dW 20000000 K) x a) y=some (oQ K x a y):=
 IH hx.1 hx.2.1 hx.2.2.1 hx.2.2.2.1 hx.2.2.2.2.1 hx.2.2.2.2.2 hy.1 hy.2.1 hy.2.2.1 hy.2.2.2.1 hy.2.2.2.2.1 hy.2.2.2.2.2
def unuB(K:Int)(D:TD)(KF:Int)(DF:TD)(KT:Int)(DT:TD)(e l:Bool)(n:Nat):Bool:=
 !(K==1||eqD D d0)||(!(K==2||((KF==0)&&((eqD DF d0)&&true))&&((KT==0)&&((eqD DT d0)&&true)))||!(K==3||(K==4||(decide (n=0)&&(!e&&!l)))))
def GI(n:Nat)(K:Int)(D:TD)(KF:Int)(DF:TD)(KT:Int)(DT:TD)(e l:Bool)(L:List TI):
  ln n K D KF DF KT DT e l L=some (unuB K D KF DF KT DT e l L.length):=by
 unfold ln unuB;rw[show(len L==0)=decide (L.length=0)from ze _];generalize eqD D d0=a;generalize((KF==0)&&((eqD DF d0)&&true))=z1;generalize((KT==0)&&((eqD DT d0)&&true))=z2;generalize decide (L.length=0)=b;generalize(K==1)=k1;generalize(K==2)=k2;generalize(K==3)=k3;generalize(K==4)=c;revert a z1 z2 b k1 k2 k3 c e l;decide +kernel
noncomputable def ga(K:Int)(D:TD)(KF:Int)(DF:TD)(KT:Int)(DT:TD)(e l:Bool)(L:List TI):Int×Int:=
 if K<1\/4<K then(0,18)else if unuB K D KF DF KT DT e l L.length=true then(0,5)else if K=1 then(0,cF D)else if K=2 then(0,oQ KF DF KT DT)else if L.length=0 then(0,17)else if 256<L.length then(0,3)else tL K e l L
def smE(D DF DT:TD)(L:List TI):Prop:=smT D/\smT DF/\smT DT/\∀t∈L,smI t
def Ce{K:Int}{D:TD}{KF:Int}{DF:TD}{KT:Int}{DT:TD}{e l:Bool}{L:List TI}(h:smE D DF DT L):
  gB 20000000 K D KF DF KT DT e l L=some (ga K D KF DF KT DT e l L):=by
 obtain⟨g,j,f,i⟩:=h;unfold gB ga;by_cases b:K<1
 ·rw[au b,ad (.inl b)];rfl
 by_cases c:4<K
 ·rw[ar b,show decide (K>4)=true from au c,ad (.inr c)];rfl
 rw[ar b,show decide (K>4)=false from ar c,ab (by omega),GI];simp only[af,ob];cases unuB K D KF DF KT DT e l L.length
 ·simp only[af,cj,aG];by_cases k1:K=1
  ·rw[ad k1,show(K==1)=true from by simp[k1],fcT g];rfl
  by_cases k2:K=2
  ·rw[ab k1,ad k2,show(K==1)=false from by simp[k1],show(K==2)=true from by simp[k2],LE j f];rfl
  rw[ab k1,ab k2,show(K==1)=false from by simp[k1],show(K==2)=false from by simp[k2]];simp only[af];rw[show(len L==0)=decide (L.length=0)from ze _];by_cases a:L.length=0
  ·rw[au a,ad a];rfl
  rw[ar a,ab a];by_cases d:256<L.length
  ·rw[show decide (len L>256)=true from au (by show(256:Int)<((L.length:Nat):Int);omega),ad d];rfl
  rw[show decide (len L>256)=false from ar (by show¬(256:Int)<((L.length:Nat):Int);omega),ab d,Ih (by omega) i (by omega)];rfl
 ·rfl
def KE(n:Nat)(i:Int)(L:List TI)(K:Int)(D:TD)(KF:Int)(DF:TD)(KT:Int)(DT:TD)(e l:Bool)(x:TD)(r:Bool)(y:TD):
  eP n i L K D KF DF KT DT e l x r y=some (i,e&&(i==0),l&&(i==w64 (len L - 1)),L,K,D,KF,DF,KT,DT,e,l,x,r,y):=by
 unfold eP;cases e<;>cases l<;>rfl
def KN(i:Int)(a b:Bool)(L:List TI)(K:Int)(D:TD)(KF:Int)(DF:TD)(KT:Int)(DT:TD)(e l:Bool)(x:TD)(r:Bool)(y:TD)(hx:smT x):
  eQ 20000000 i a b L K D KF DF KT DT e l x r y=some (i,(a&&b)||((a||b)&&(r||!plT x)),L,K,D,KF,DF,KT,DT,e,l):=by
 unfold eQ;rw[ox hx];cases a<;>cases b<;>cases r<;>cases plT x<;>rfl
def EU {K:Int} (w:K=3\/K=4) {e l:Bool} {L:List TI} (hs:∀t∈L,smI t) (x:L.length<=1000000) (D:TD) (KF:Int) (DF:TD) (KT:Int) (DT:TD):
  aw (db 20000000) 20000000 (0,L,K,D,KF,DF,KT,DT,e,l)=some (match kX (errI K e l L.length) 0 L with | some p=>.inl ((p.1:Int),p.2) | none=>.inr ()):=by
 have:=nR (step:=db 20000000) (st:=λi=>((i:Int),L,K,D,KF,DF,KT,DT,e,l)) (L:=L) (f:=errI K e l L.length) (yes:=λi q=>.inl ((i:Int),q)) (no:=.inr ())
  (λi t hi=>by
   have n:i<L.length:=(lu.1 hi).1;have g:=hs t (dY hi);have m:gA 20000000 (iF t) (d8 t).2.2.1 (d8 t).2.2.2 (K==4)=some (itI t (K==4)):=Du _ _ g.1 g.2;have d:w64 (len L - 1)=((L.length - 1:Nat):Int):=zy (by omega) (by omega);unfold db;simp only [u15,u14,u13,u12,u11,u10,u9,u8,u7,u6,u5,u4,u3,u2];rw [au (show (i:Int)<len L by unfold len;omega),cK n];simp only [am,ob,hi,m];by_cases j:itI t (K==4)=0
   ·rw [show (itI t (K==4) != 0)=false from by simp [j],af];simp only [KE,d,ze,natB,u15,u14,u13,u12,u11,u10,u9,u8,u7,u6,u5,u4,u3,u2];rw [KN _ _ _ _ _ _ _ _ _ _ _ _ _ _ _ g.1];simp only [u11,u10,u9,u8,u7,u6,u5,u4,u3,u2];have u:decide (i=L.length - 1)=decide (i+1=L.length):=by congr 1;exact propext (by omega)
    have v:(decide (i=0)&&decide (i+1=L.length))=(decide (L.length=1)&&decide (i=0)):=by
     by_cases k:i=0
     ·subst k;rw [au rfl,kP,uQ];congr 1;exact propext (by omega)
     ·rw [ar k,AP];rfl
    have s:decide (L.length=1)=true->decide (i=0)=true:=λh=>au (by have:=zg h;omega);have o:errI K e l L.length i t=if ((e&&decide (i=0))&&(l&&decide (i+1=L.length)))||(((e&&decide (i=0))||(l&&decide (i+1=L.length)))&&(rT t||!plT (iF t))) then 10 else 0:=by
     unfold errI endB;rw [j,ab (λh=>h rfl)];congr 1;revert v s;generalize rT t=r;generalize plT (iF t)=z;generalize decide (i=0)=a;generalize decide (i+1=L.length)=b;generalize decide (L.length=1)=c;cases e<;>cases l<;>cases z<;>cases r<;>cases a<;>cases b<;>cases c<;>simp
    rw [u,ly (by omega),o];generalize (((e&&decide (i=0))&&(l&&decide (i+1=L.length)))||(((e&&decide (i=0))||(l&&decide (i+1=L.length)))&&(rT t||!plT (iF t))))=z;cases z<;>rfl
   ·have:errI K e l L.length i t=itI t (K==4):=ad j;rw [show (itI t (K==4) != 0)=true from by simp [j],am,this,ad j])
  (by
   unfold db;simp only [u15,u14,u13,u12,u11,u10,u9,u8,u7,u6,u5,u4,u3,u2];rw [ar (show ¬((L.length:Nat):Int)<len L by unfold len;omega)];rfl)
  L.length 0 (by omega) 20000000 (by omega)
 rw [gk] at this;exact this
def zJ{K:Int}{D:TD}{KF:Int}{DF:TD}{KT:Int}{DT:TD}{e l:Bool}{L:List TI}(h:smE D DF DT L):
  gZ 20000000 K D KF DF KT DT e l L=some (ga K D KF DF KT DT e l L):=by
 obtain⟨k,o,i,n⟩:=h;have j3:fk 20000000 L K D KF DF KT DT e l=some (K==3||K==4,L,K,D,KF,DF,KT,DT,e,l):=by
  unfold fk;cases(K==3)<;>rfl
 have j4:fK 20000000 (K==3||K==4) L K D KF DF KT DT e l=some (K==3||K==4,!(K==1)&&(!(K==2)&&!(K==3||K==4)),L,K,D,KF,DF,KT,DT,e,l):=by
  unfold fK;rw[show(K != 1)=!(K==1)from rfl,show(K != 2)=!(K==2)from rfl];cases(K==1)<;>cases(K==2)<;>rfl
 have j7:fH 20000000 (K==3||K==4) L K D KF DF KT DT e l=some (unuB K D KF DF KT DT e l L.length,L,K,D,KF,DF,KT,DT,e,l):=by
  unfold fH unuB;have a:decide (len L>0)=!decide (L.length=0):=by
   by_cases g:L.length=0
   ·rw[au g,ar (by unfold len;omega)];rfl
   ·rw[ar g,au (by unfold len;omega)];rfl
  rw[show(K != 1)=!(K==1)from rfl,show(K != 2)=!(K==2)from rfl,a];generalize eqD D d0=m;generalize((KF==0)&&((eqD DF d0)&&true))=z1;generalize((KT==0)&&((eqD DT d0)&&true))=z2;generalize decide (L.length=0)=p;generalize(K==1)=k1;generalize(K==2)=k2;generalize(K==3)=k3;generalize(K==4)=j;cases m<;>cases z1<;>cases z2<;>cases p<;>cases k1<;>cases k2<;>cases k3<;>cases j<;>cases e<;>cases l<;>rfl
 unfold gZ ga;rw[j3];simp only[ob,u11,u10,u9,u8,u7,u6,u5,u4,u3,u2,j4];by_cases f:K<1\/4<K
 ·rw[ad f,show(K==1)=false from by simp;omega,show(K==2)=false from by simp;omega,show(K==3)=false from by simp;omega,show(K==4)=false from by simp;omega];rfl
 have c:(!(K==1)&&(!(K==2)&&!(K==3||K==4)))=false:=by
  rcases(by omega:K=1\/K=2\/K=3\/K=4)with rfl | rfl | rfl | rfl<;>rfl
 rw[ab f,c];simp only[af,j7];cases unuB K D KF DF KT DT e l L.length
 ·simp only[af,cj,aG];by_cases k1:K=1
  ·rw[ad k1,show(K==1)=true from by simp[k1],rcT k];rfl
  by_cases k2:K=2
  ·rw[ab k1,ad k2,show(K==1)=false from by simp[k1],show(K==2)=true from by simp[k2],yR o i];rfl
  rw[ab k1,ab k2,show(K==1)=false from by simp[k1],show(K==2)=false from by simp[k2]];simp only[af];rw[show(len L==0)=decide (L.length=0)from ze _];by_cases b:L.length=0
  ·rw[au b,ad b];rfl
  rw[ar b,ab b];by_cases d:256<L.length
  ·rw[show decide (len L>256)=true from au (by show(256:Int)<((L.length:Nat):Int);omega),ad d];rfl
  rw[show decide (len L>256)=false from ar (by show¬(256:Int)<((L.length:Nat):Int);omega),ab d,af,af,EU (by omega) n (by omega)];unfold tL;cases kX (errI K e l L.length) 0 L<;>rfl
 ·rfl
def wV{K:Int}{D:TD}{KF:Int}{DF:TD}{KT:Int}{DT:TD}{e l:Bool}{L:List TI}(h:smE D DF DT L):
  eH 20000000 K D KF DF KT DT e l L=some (ga K D KF DF KT DT e l L).2:=by
 unfold eH;rw[Ce h];rfl
def zQ{K:Int}{D:TD}{KF:Int}{DF:TD}{KT:Int}{DT:TD}{e l:Bool}{L:List TI}(h:smE D DF DT L):
  hO 20000000 K D KF DF KT DT e l L=some (ga K D KF DF KT DT e l L).2:=by
 unfold hO;rw[zJ h];rfl
abbrev TR:=ae
def natI(x:Int)(b:Nat):Prop:=0<=x/\x<(b:Int)
def wfD(g i c d b a h f e:Int):Prop:=natI g 256/\natI i 65536/\natI c 256/\natI d 256/\natI b 256/\natI a 256/\natI h 256/\natI f 256/\natI e 256
def natI.nat{x:Int}{b:Nat}(h:natI x b):∃n:Nat,x=(n:Int)/\n<b:=⟨x.toNat,by have:=h.1;omega,by have:=h.1;have:=h.2;omega⟩
def DofI{n j c f a m k b i:Int}(g:Bool)(h:wfD n j c f a m k b i):∃x:TD,aE 20000000 n g j c f a m k b i=some x/\smT x/\cF x=0:=by
 obtain⟨G,A,K,E,L,I,M,s,v⟩:=h;obtain⟨n,rfl,O⟩:=G.nat;obtain⟨j,rfl,u⟩:=A.nat;obtain⟨c,rfl,z⟩:=K.nat;obtain⟨f,rfl,J⟩:=E.nat;obtain⟨a,rfl,N⟩:=L.nat;obtain⟨m,rfl,H⟩:=I.nat;obtain⟨k,rfl,t⟩:=M.nat;obtain⟨b,rfl,y⟩:=s.nat;obtain⟨i,rfl,D⟩:=v.nat;obtain⟨P,l,dg,x,q,F,d,k0,k1,k2,e,hc,r,w⟩:=Nh 19999700 n j c f a m k b i g u z J N H t y D;obtain⟨B,p,o,_⟩:=lK hc;obtain⟨_,_,_,_,_,C⟩:=ko B;refine⟨_,e,⟨?_,by show dg.length<=100;omega,?_,by simp,by simp,by simp⟩,BU hc w⟩
 ·rcases p with h | h
  ·rw[h];simp
  ·show F.length<=18;omega
 ·rcases o with h | h
  ·rw[h];simp
  ·show d.length<=18;omega
def Ia:((List.range 13).all λj=>sea (monT j)==0)=true:=by decide +kernel
def O1(p h b f a i o k n:Nat)(g:Bool)(s:h<65536)(w:b<256)(t:f<256)(y:a<256)(v:i<256)(A:a%40<=12):
  ∃r:TD,aE 20000000 (p:Int) g (h:Int) (b:Int) (f:Int) (a:Int) (i:Int) (o:Int) (k:Int) (n:Int)=some r/\seT r=0:=by
 obtain⟨z,l,dg,x,q,u,d,e,_,_,_,_,j,c,_⟩:=Es 19999700 p h b f a i o k n g s w t y v;refine⟨_,e,?_⟩;show sea u=0;by_cases m:q=0
 ·rw[c m];have:=(ch.1 Ia) (a%40) (ij.2 (by omega));simpa using this
 ·rw[(j m).1];decide
def ExI{i p k m f b q j n:Int}(g:Bool)(h:wfD i p k m f b q j n):
  ∃x:TD,bg 20000000 i g p k m f b q j n=some x/\smT x/\cF x=0/\exT x=true/\(Int.tmod f 40<=12->seT x=0):=by
 obtain⟨R,K,z,v,V,w,X,G,I⟩:=h;obtain⟨i,rfl,H⟩:=R.nat;obtain⟨p,rfl,A⟩:=K.nat;obtain⟨k,rfl,B⟩:=z.nat;obtain⟨m,rfl,D⟩:=v.nat;obtain⟨f,rfl,E⟩:=V.nat;obtain⟨b,rfl,U⟩:=w.nat;obtain⟨q,rfl,Y⟩:=X.nat;obtain⟨j,rfl,b8⟩:=G.nat;obtain⟨n,rfl,b9⟩:=I.nat;obtain⟨M,l,dg,x,P,d,k0,k1,k2,e,hc,W,t,s,u⟩:=Ci 19999700 i p k m f b q j n g H A B D E U;refine⟨_,e,⟨t,u,s,by simp,by simp,by simp⟩,hc,W,λQ=>?_⟩;have C:Int.tmod (f:Int) 40=((f%40:Nat):Int):=rfl;rw[C]at Q;have T:Int.tmod (b:Int) 40=((b%40:Nat):Int):=rfl;have O:Int.tdiv ((b%40:Nat):Int) 2=((b%40 / 2:Nat):Int):=rfl;have N:wrap .u8 ((b%40 / 2:Nat):Int)=((b%40 / 2:Nat):Int):=en _ (by omega) (by omega);have S:=λ(F c6:Nat) (w:c6<256)=>O1 F p k m f c6 q j n g A B D E w (by omega);have e':bg 20000000 (i:Int) g (p:Int) (k:Int) (m:Int) (f:Int) (b:Int) (q:Int) (j:Int) (n:Int)=some (M,l,dg,x,0,P,d,((k0:Nat):Int),((k1:Nat):Int),((k2:Nat):Int)):=e;have key:∀(o:Option TD) (y:TD),(∃r:TD,o=some r/\seT r=0)->(ob o λa=>(cond (decide ((d4 a).1>0)) (some (a.1,a.2.1,a.2.2.1,a.2.2.2.1,(0:Int),(d4 a).2.1,(d4 a).2.2.1,(d4 a).2.2.2.1,(d8 a).1,(d8 a).2)) (some (a.1,a.2.1,a.2.2.1,a.2.2.2.1,(d4 a).1,(d4 a).2.1,(d4 a).2.2.1,(d4 a).2.2.2.1,(d8 a).1,(d8 a).2))))=some y->seT y=0:=by
  rintro o y ⟨r,rfl,L⟩ hy;simp only[ob]at hy;cases J:decide ((d4 r).1>0)<;>rw[J]at hy<;>simp only[am,af,aq]at hy<;>subst hy<;>exact L
 unfold bg at e';rw[C,T,O,N]at e';rw[ar (show¬((f%40:Nat):Int)>33 by omega)]at e';simp only[af]at e';have Z:(0:Int)=((0:Nat):Int):=rfl;cases z:(Int.tmod (i:Int) 6==3)<;>rw[z]at e'<;>simp only[am,af]at e'
 ·cases v:(Int.tmod (i:Int) 6==4)<;>rw[v]at e'<;>simp only[am,af]at e'
  ·cases c:decide (((b%40:Nat):Int)>31)<;>rw[c]at e'<;>simp only[am,af]at e'
   ·exact key _ _ (S i b (by omega)) e'
   ·exact key _ _ (S i (b%40 / 2) (by omega)) e'
  ·cases c:decide (((b%40:Nat):Int)>31)<;>rw[c]at e'<;>simp only[am,af]at e'
   ·exact key _ _ (S 0 b (by omega)) e'
   ·exact key _ _ (S 0 (b%40 / 2) (by omega)) e'
 ·cases c:decide (((b%40:Nat):Int)>31)<;>rw[c]at e'<;>simp only[am,af]at e'
  ·exact key _ _ (S 0 b (by omega)) e'
  ·exact key _ _ (S 0 (b%40 / 2) (by omega)) e'
def AB{o m d j r c n l k:Int}(g:Bool)(h:wfD o m d j r c n l k):∃x:TD,bH 20000000 o g m d j r c n l k=some x/\smT x/\plT x=true:=by
 obtain⟨a,rfl,u⟩:=h.2.2.2.2.1.nat;have q:Int.tmod (a:Int) 40=((a%40:Nat):Int):=rfl;have f:Int.tmod ((a%40:Nat):Int) 12=((a%40%12:Nat):Int):=rfl;unfold bH;rw[q,f];by_cases t:12<a%40
 ·rw[au (show((a%40:Nat):Int)>12 by omega),am];have w:w8 (((a%40%12:Nat):Int)+1)=((a%40%12+1:Nat):Int):=by
   show wrap .u8 _=_;rw[en _ (by omega) (by omega)];omega
  rw[w];have s:wfD o m d j ((a%40%12+1:Nat):Int) c n l k:=⟨h.1,h.2.1,h.2.2.1,h.2.2.2.1,⟨by omega,by omega⟩,h.2.2.2.2.2⟩;obtain⟨x,e,hs,hc,i,b⟩:=ExI g s;have p:seT x=0:=b (by
   show(((a%40%12+1)%40:Nat):Int)<=12;omega)
  exact⟨x,by rw[e];rfl,hs,gR.2 ⟨hc,i,by omega⟩⟩
 ·rw[ar (show¬((a%40:Nat):Int)>12 by omega),af];obtain⟨x,e,hs,hc,i,b⟩:=ExI g h;have p:seT x=0:=b (by rw[q];omega);exact⟨x,by rw[e];rfl,hs,gR.2 ⟨hc,i,by omega⟩⟩
def BofI{k p n f i b o m c j:Int}(g:Bool)(E:natI k 256)(h:wfD p n f i b o m c j):
  ∃(K:Int) (x:TD),bG 20000000 k p g n f i b o m c j=some (K,x)/\smT x/\oC K x=0/\(K=1\/((K=2\/K=3)/\x=d0)):=by
 obtain⟨H,C,M,F,N,J,S,t,y⟩:=h;obtain⟨k,rfl,bk⟩:=E.nat;obtain⟨p,rfl,v⟩:=H.nat;obtain⟨n,rfl,w⟩:=C.nat;obtain⟨f,rfl,B⟩:=M.nat;obtain⟨i,rfl,L⟩:=F.nat;obtain⟨b,rfl,U⟩:=N.nat;obtain⟨o,rfl,I⟩:=J.nat;obtain⟨m,rfl,V⟩:=S.nat;obtain⟨c,rfl,W⟩:=t.nat;obtain⟨j,rfl,Y⟩:=y.nat;obtain⟨K,X,l,dg,x,Z,d,k0,k1,k2,e,hc,q,a,r,Q⟩:=B_of 19999700 k p n f i b o m c j g v w B L U I;refine⟨K,_,e,⟨q,r,a,by simp,by simp,by simp⟩,hc,Q.imp id λ⟨R,z,s,D,u,P,O,T,A,G⟩=>⟨R,?_⟩⟩;subst z s D u P O T A G;rfl
def Fv{g l:Bool}{dg:aa}{x:Int}{m d:aa}{k0 k1 k2:Int}(h:chkD g l dg x 0 m d k0 k1 k2=0)(c:m≠[])(hp:0<=k0/\0<=k1):chkD g l dg x 0 m [] k0 k1 0=0:=by
 obtain⟨b,e,c3,c4⟩:=ym h;unfold chkD;have a:dm m []=2:=by unfold dm;simp[c]
 have f:allM k0 k1 0 2=0:=by
  unfold allM at c4 ⊢;by_cases hx:3<k0\/3<k1\/3<k2\/(dm m d<2/\k1≠0)\/(dm m d<3/\k2≠0)
  ·rw[ad hx]at c4;cases c4
  ·rw[ab (by omega)]
 rw[b,a,f];have:(!(m==[])&&(!(decide (0<sea m))&&!(dq m 12)))=false:=by
  rcases e with h | h | h
  ·rw[h];rfl
  ·rw[au h];simp
  ·rw[h];simp
 rw[this];rfl
def F3{g l:Bool}{dg:aa}{x:Int}{m d:aa}{k0 k1 k2:Int}(h:chkD g l dg x 0 m d k0 k1 k2=0):chkD g l dg x 0 [] [] k0 0 0=0:=by
 obtain⟨b,e,c3,c4⟩:=ym h;have hy:yrD g l dg x 0 []=true:=by
  unfold yrD at b ⊢;by_cases a:okY g l dg x 0
  ·rw[ad a];unfold yrB;rfl
  ·rw[ab a]at b;cases b
 have c:allM k0 0 0 1=0:=by
  unfold allM at c4 ⊢;by_cases hx:3<k0\/3<k1\/3<k2\/(dm m d<2/\k1≠0)\/(dm m d<3/\k2≠0)
  ·rw[ad hx]at c4;cases c4
  ·rw[ab (by omega)]
 unfold chkD;rw[hy,show dm [] []=1 from rfl,c];rfl
def uF{g l:Bool}{dg:aa}{x q:Int}{m:aa}{k0 k1 k2:Int}(h:chkD g l dg x q m [] k0 k1 k2=0):chkF g l dg x q m [] k0 k1 k2=0:=by
 unfold chkF;rw[ab (λh=>h.2.1 rfl),h]
def zh(x:TD):1<=coT x/\coT x<=3:=ng _ _
def cutI{x:TD}(hs:smT x)(hp:plT x=true){n:Nat}(F:1<=n)(k:n<=coT x):∃y:TD,gW 20000000 x (n:Int)=some y/\smT y/\plT y=true/\coT y=n:=by
 obtain⟨hc,w,o⟩:=gR.1 hp;obtain⟨t,E⟩:=Gp hc w;have c:=sF hc;obtain⟨g,l,dg,e,q,m,d,k0,k1,k2⟩:=x;obtain⟨j,i,z,f,h,v⟩:=hs;simp only at j i z f h v c t E;subst t;have B:=zh (g,l,dg,e,0,m,d,k0,k1,k2);have b:exD dg m d 0=true:=w;obtain⟨_,_,A⟩:=ou hc;have r:coT (g,l,dg,e,0,m,d,k0,k1,k2)=dm m d:=rfl;unfold gW;by_cases D:n<3
 ·rw[au (show(n:Int)<3 by omega),am];by_cases C:n<2
  ·rw[au (show(n:Int)<2 by omega),am];have p:n=1:=by omega
   subst p;have a:=F3 c;exact⟨_,rfl,⟨by simp,i,by simp,f,by simp,by simp⟩,gR.2 ⟨uF a,(Fg b).2,by show¬0<sea [];decide⟩,rfl⟩
  ·rw[ar (show¬(n:Int)<2 by omega),af];have p:n=2:=by omega
   subst p;have u:m≠[]:=by
    rintro rfl;rw[r]at k;unfold dm at k;by_cases s:d=[]
    ·simp[s]at k
    ·exact absurd rfl (A s).1
   have a:=Fv c u ⟨f,h⟩;exact⟨_,rfl,⟨j,i,by simp,f,h,by simp⟩,gR.2 ⟨uF a,(Fg b).1,o⟩,by show dm m []=2;unfold dm;simp[u]⟩
 ·rw[ar (show¬(n:Int)<3 by omega),af,ar (show¬(n:Int)<2 by omega),af];exact⟨_,rfl,⟨j,i,z,f,h,v⟩,hp,by omega⟩
def GY{p:TD}{all:Bool}(hp:plT p=true):itE p false d0 all=0:=by
 obtain⟨hc,a,_⟩:=gR.1 hp;rw[Fo hc,a];have:eqD d0 d0=true:=eZ.2 rfl;rw[this];simp
def xk{x y:TD}{all:Bool}(hx:plT x=true)(hy:plT y=true)(hc:coT x=coT y)(b:(dyT x).1<=(dyT y).1):itE x true y all=0:=by
 obtain⟨a,c,_⟩:=gR.1 hx;obtain⟨d,e,_⟩:=gR.1 hy;rw[Hy a d,c];have:ordB x y=true:=by unfold ordB;rw[hx,hy,au hc,au b];rfl
 rw[this];simp
def Pi{G A t w j F B p z:Int}(g:Bool){m o s E H D l q C:Int}(f:Bool)(R:Int)(all:Bool)(a:wfD G A t w j F B p z)(S:wfD m o s E H D l q C):
  ∃x r y,fe 20000000 G g A t w j F B p z R m f o s E H D l q C all=some (x,r,y)/\smT x/\smT y/\itE x r y all=0:=by
 unfold fe;cases(Int.tmod R 2==1)
 ·rw[af];cases all
  ·obtain⟨x,e,hs,hc⟩:=DofI g a;refine⟨x,false,d0,by rw[af,e];rfl,hs,wC,?_⟩;have:eqD d0 d0=true:=eZ.2 rfl;rw[Fo hc,this];simp
  ·obtain⟨x,e,hs,hc,U,_⟩:=ExI g a;refine⟨x,false,d0,by rw[am,e];rfl,hs,wC,?_⟩;have:eqD d0 d0=true:=eZ.2 rfl;rw[Fo hc,this,U];simp
 ·rw[am];obtain⟨x,ex,sx,O⟩:=AB g a;obtain⟨y,Q,J,L⟩:=AB f S;rw[ex,Q];simp only[ob,rcoT];have P:(cond (decide (((coT y:Nat):Int)<((coT x:Nat):Int))) ((coT y:Nat):Int) ((coT x:Nat):Int))=((min (coT x) (coT y):Nat):Int):=by
   by_cases h:coT y<coT x
   ·rw[au (by omega),am];omega
   ·rw[ar (by omega),af];omega
  rw[P];have Z:=zh x;have W:=zh y;obtain⟨u,I,d,b,Y⟩:=cutI sx O (n:=min (coT x) (coT y)) (by omega) (by omega);obtain⟨v,M,c,i,X⟩:=cutI J L (n:=min (coT x) (coT y)) (by omega) (by omega);obtain⟨N,T,_⟩:=gR.1 b;obtain⟨K,V,_⟩:=gR.1 i;rw[I,M];simp only[rdT d N T,rdT c K V,u2];by_cases k:(dyT u).1>(dyT v).1
  ·rw[au k];exact⟨v,true,u,rfl,c,d,xk i b (by omega) (by omega)⟩
  ·rw[ar k];exact⟨u,true,v,rfl,d,c,xk b i (by omega) (by omega)⟩
def wfR(r:TR):Prop:=wfD r.1 r.2.2.1 r.2.2.2.1 (d4 r).1 (d4 r).2.1 (d4 r).2.2.1 (d4 r).2.2.2.1 (d8 r).1 (d8 r).2.1/\
 wfD (d8 r).2.2.2.1 (d4 (d8 r)).2.1 (d4 (d8 r)).2.2.1 (d4 (d8 r)).2.2.2.1 (d16 r).1 (d16 r).2.1 (d16 r).2.2.1 (d16 r).2.2.2.1 (d4 (d16 r))
def qh{A:Type}{f:Nat->A->Int}:∀{L:List A} {k:Nat},(∀i t,L[i]?=some t->f (k+i) t=0)->kX f k L=none
 | [],_,_=>rfl
 | t::r,k,h=>by
  have a:=h 0 t rfl;rw[eJ]at a;rw[kX,ab (λh=>h a)];exact qh λi u b=>by rw[gh,oN 1 i];exact h (i+1) u b
structure RightE(k:Int)(D:TD)(KF:Int)(DF:TD)(KT:Int)(DT:TD)(e l:Bool)(I:List TI):Prop where
 sm:smE D DF DT I
 first:ga k D KF DF KT DT e l I=(0,0)
 len:I.length<=5
 kind:1<=k/\k<=4
 its:∀t∈I,itI t (k==4)=0
def Gg{k:Int}(m:k=3\/k=4){e l:Bool}{I:List TI}(s:1<=I.length)(j:I.length<=5)(hs:∀t∈I,smI t/\itI t (k==4)=0)(p:e=true->∃t,I[0]?=some t/\endB t=true)
  (o:l=true->∃t,I[I.length - 1]?=some t/\endB t=true) (g:e=true->l=true->I.length≠1):RightE k d0 0 d0 0 d0 e l I:=by
 refine⟨⟨wC,wC,wC,λt d=>(hs t d).1⟩,?_,j,by omega,λt d=>(hs t d).2⟩;have q:unuB k d0 0 d0 0 d0 e l I.length=false:=by
  have n:eqD d0 d0=true:=eZ.2 rfl;unfold unuB;rw[n];rcases m with rfl | rfl<;>rfl
 unfold ga;rw[ab (by omega),ab (by rw[q];simp),ab (by omega),ab (by omega),ab (by omega),ab (by omega)];unfold tL;rw[qh λi t d=>?_];rw[bV];have r:i<I.length:=(lu.1 d).1;unfold errI;rw[(hs t (dY d)).2,ab (λh=>h rfl),ab];intro h;simp only[fP,aC,cA,jd]at h;rcases h with⟨⟨a,b⟩,c⟩ | ⟨⟨a,b⟩,c⟩ | ⟨a,b,c⟩
 ·obtain⟨u,f,u2⟩:=p a;subst b;rw[d]at f;cases f;rw[u2]at c;cases c
 ·obtain⟨u,f,u2⟩:=o a;rw[show I.length - 1=i by omega,d]at f;cases f;rw[u2]at c;cases c
 ·exact g a b c
def va{p:TD}{all:Bool}(hs:smT p)(hp:plT p=true):smI (mkI p false d0)/\itI (mkI p false d0) all=0/\endB (mkI p false d0)=true:=
 ⟨⟨hs,wC⟩,GY hp,by unfold endB;show(!false&&plT p)=true;rw[hp];rfl⟩
def Jh(n x0:Nat)(l:Int)(k:Bool)(s:Int)(q:TD)(m:Int)(v:TD)(t:Int)(u:TD)(o d:Bool){L:List TR}(c:Int)(h:TD)(j:Int)(e:TD)(x16:Int)(f:TD)(a g:Bool)(b I:List TI)
  {r:TR} {p:TD} (A:0<x0) (y:L[0]?=some r) (w:0<I.length) (hp:bH n r.1 r.2.1 r.2.2.1 r.2.2.2.1 (d4 r).1 (d4 r).2.1 (d4 r).2.2.1 (d4 r).2.2.2.1 (d8 r).1 (d8 r).2.1=some p):
  fB n x0 l k s q m v t u o d L c h j e x16 f a g b I=some (x0,l,s,q,m,v,t,u,o,d,L,c,h,j,e,x16,f,a,g,b,if k=true then I.set 0 (mkI p false d0)else I)/\
  eS n x0 l k L s q m v t u o d c h j e x16 f a g b I=some (x0,l,L,s,q,m,v,t,u,o,d,c,h,j,e,x16,f,a,g,b,if k=true then I.set 0 (mkI p false d0)else I):=by
 unfold fB eS;cases k
 ·exact⟨rfl,rfl⟩
 ·have x:ix x0 (0:Int)=some 0:=cK (i:=0) A;have z:ix I.length (0:Int)=some 0:=cK (i:=0) w;simp only[am,x,z,y,hp,ob,bj w,bc];constructor<;>trivial
def JG(n x0 m:Nat)(j:Bool)(q:Int)(o:TD)(k:Int)(u:TD)(s:Int)(t:TD)(l d:Bool){L:List TR}(c:Int)(h:TD)(i:Int)(e:TD)(x16:Int)(f:TD)(a g:Bool)(b I:List TI)
  {r:TR} {p:TD} (x:m<x0) (w:L[m]?=some r) (v:m<I.length) (hp:bH n r.1 r.2.1 r.2.2.1 r.2.2.2.1 (d4 r).1 (d4 r).2.1 (d4 r).2.2.1 (d4 r).2.2.2.1 (d8 r).1 (d8 r).2.1=some p):
  fm n x0 (m:Int) j q o k u s t l d L c h i e x16 f a g b I=some ((m:Int),q,o,k,u,s,t,l,d,c,h,i,e,x16,f,a,g,b,if j=true then I.set m (mkI p false d0)else I)/\
  eV n x0 (m:Int) j L q o k u s t l d c h i e x16 f a g b I=some ((m:Int),q,o,k,u,s,t,l,d,c,h,i,e,x16,f,a,g,b,if j=true then I.set m (mkI p false d0)else I):=by
 unfold fm eV;cases j
 ·exact⟨rfl,rfl⟩
 ·simp only[am,cK x,cK v,w,hp,ob,bj v,bc];constructor<;>trivial
def Bv{L:List TR}(J:∀r∈L,wfR r){n:Nat}(K:n<=L.length)(M:n<=5)(k:Int)(e l:Bool)(a:List TI):
  ∃I:List TI,I.length=n/\(∀t∈I,smI t/\itI t (k==4)=0)/\
   aw (bZ 20000000) 20000000 (n,0,L,k,e,l,a,([]:List TI))=some (n,0,d0,0,d0,0,d0,false,false,L,k,d0,0,d0,0,d0,e,l,a,I)/\
   aw (bQ 20000000) 20000000 (n,0,L,k,e,l,a,([]:List TI))=some (n,L,0,d0,0,d0,0,d0,false,false,k,d0,0,d0,0,d0,e,l,a,I):=by
 have p:∀i (r:TR) (acc:List TI),i<n->L[i]?=some r->acc.length=i->∃b:TI,(smI b/\itI b (k==4)=0)/\
   bZ 20000000 (n,(i:Int),L,k,e,l,a,acc)=some (.inl (n,((i+1:Nat):Int),L,k,e,l,a,acc++[b]))/\
   bQ 20000000 (n,(i:Int),L,k,e,l,a,acc)=some (.inl (n,((i+1:Nat):Int),L,k,e,l,a,acc++[b])):=by
  intro i r acc hi o j;obtain⟨H,s⟩:=J r (dY o);obtain⟨x,f,y,q,sx,u,E⟩:=Pi r.2.1 (d4 (d8 r)).1 (d8 r).2.2.1 (k==4) H s;refine⟨mkI x f y,⟨⟨sx,u⟩,E⟩,?_,?_⟩
  ·unfold bZ;simp only[u8,u7,u6,u5,u4,u3,u2];rw[au (show(i:Int)<((n:Nat):Int)by omega),cK hi];simp only[am,ob,o,q];rw[ly (by omega),show Nat.ble (acc.length+1) bE=true from dl (by unfold bE;omega)];rfl
  ·unfold bQ;simp only[u8,u7,u6,u5,u4,u3,u2];rw[au (show(i:Int)<((n:Nat):Int)by omega),cK hi];simp only[am,ob,o,q];rw[ly (by omega),show Nat.ble (acc.length+1) bE=true from dl (by unfold bE;omega)];rfl
 have d:∀acc:List TI,bZ 20000000 (n,(n:Int),L,k,e,l,a,acc)=some (.inr (n,0,d0,0,d0,0,d0,false,false,L,k,d0,0,d0,0,d0,e,l,a,acc)):=λacc=>by
  unfold bZ;simp only[u8,u7,u6,u5,u4,u3,u2];rw[ar (show¬((n:Nat):Int)<((n:Nat):Int)by omega)];rfl
 have c:∀acc:List TI,bQ 20000000 (n,(n:Int),L,k,e,l,a,acc)=some (.inr (n,L,0,d0,0,d0,0,d0,false,false,k,d0,0,d0,0,d0,e,l,a,acc)):=λacc=>by
  unfold bQ;simp only[u8,u7,u6,u5,u4,u3,u2];rw[ar (show¬((n:Nat):Int)<((n:Nat):Int)by omega)];rfl
 have g:∀(r i:Nat) (acc:List TI),i+r=n->acc.length=i->(∀t∈acc,smI t/\itI t (k==4)=0)->∀N,r<N->∃I:List TI,I.length=n/\(∀t∈I,smI t/\itI t (k==4)=0)/\
   aw (bZ 20000000) N (n,(i:Int),L,k,e,l,a,acc)=some (n,0,d0,0,d0,0,d0,false,false,L,k,d0,0,d0,0,d0,e,l,a,I)/\
   aw (bQ 20000000) N (n,(i:Int),L,k,e,l,a,acc)=some (n,L,0,d0,0,d0,0,d0,false,false,k,d0,0,d0,0,d0,e,l,a,I):=by
  intro r
  induction r with
  | zero=>
   intro i acc hi j m N w;obtain⟨N,rfl⟩:∃k,N=k+1:=⟨N - 1,by omega⟩;obtain rfl:i=n:=by omega
   exact⟨acc,j,m,by rw[aw,d],by rw[aw,c]⟩
  | succ r ih=>
   intro i acc hi j m N w;obtain⟨N,rfl⟩:∃k,N=k+1:=⟨N - 1,by omega⟩;obtain⟨b,G,A,C⟩:=p i _ acc (by omega) (bj (show i<L.length by omega)) j
   obtain⟨I,B,v,D,F⟩:=ih (i+1) (acc++[b]) (by omega) (by simp[j]) (λx hx=>by
    rcases jW.1 hx with h | h
    ·exact m x h
    ·rw[lx.1 h];exact G) N (by omega)
   exact⟨I,B,v,by rw[aw,A];exact D,by rw[aw,C];exact F⟩
 exact g n 0 [] (by omega) rfl (λt z=>by cases z) 20000000 (by omega)
def On(n x0:Nat)(a:Int)(b:Bool)(P:List TR)(d c e f:Int)(L:List TR)(g:List TI):
  f9 n x0 a b P d c e f L g=some (x0,a,b||(a==1||a==2),P,d,c,e,f,L,g)/\
  fE n x0 a b P d c e f g=some (x0,a,b||(a==1||a==2),P,d,c,e,f,g):=by
 unfold f9 fE ig gO;cases b<;>cases(a==1)<;>exact⟨rfl,rfl⟩
def Jq(n x0:Nat)(g:Int)(a:Bool)(P:List TR)(c b d e:Int)(L:List TR)(f:List TI):
  fF n x0 g a P c b d e L f=some (x0,a||g==4,P,c,b,d,e,L,f)/\
  eU n x0 g a P c b d e f=some (x0,a||g==4,P,c,b,d,e,f):=by
 unfold fF eU;cases a<;>exact⟨rfl,rfl⟩
def Jd(n x0:Nat)(b:Bool)(L:List TR)(e l:Bool)(c a:List TI):
  fJ n x0 b L e l c a=some (x0,L,(if b then 4 else 3),e,l,c,a)/\eW n x0 b L e l c a=some (x0,L,(if b then 4 else 3),e,l,c,a):=by
 unfold fJ eW;cases b<;>exact⟨rfl,rfl⟩
def JI(n:Nat)(x0 r:Int)(l:TD)(o:Int)(j:TD)(i:Int)(m:TD)(p k:Bool)(q:Int)(h:TD)(c:Int)(f:TD)(g:Int)(d:TD)(a x16:Bool)(e b:List TI):
  dQ n x0 r l o j i m p k q h c f g d a x16 e b=some ((x0==0)&&a,r,l,o,j,i,m,p,k,q,h,c,f,g,d,a,x16,e,b):=by
 unfold dQ;cases(x0==0)<;>rfl
def Jm(n:Nat)(x0:Bool)(r:Int)(l:TD)(o:Int)(j:TD)(i:Int)(m:TD)(p k:Bool)(q:Int)(g:TD)(b:Int)(e:TD)(f:Int)(c:TD)(h x16:Bool)(d a:List TI):
  dS n x0 r l o j i m p k q g b e f c h x16 d a=some (r,l,o,j,i,m,p,k,q,g,b,e,f,c,h,!x0&&x16,d,a):=by
 unfold dS;cases x0<;>rfl
def qT{x:TD}(hs:smT x)(hc:cF x=0):RightE 1 x 0 d0 0 d0 false false []:=by
 refine⟨⟨hs,wC,wC,λt a=>by cases a⟩,?_,by simp,by omega,by simp⟩;have c:eqD d0 d0=true:=eZ.2 rfl;have b:unuB 1 x 0 d0 0 d0 false false ([]:List TI).length=false:=by unfold unuB;rw[c];rfl
 unfold ga;rw[ab (by omega),ab (by rw[b];simp),ad rfl,hc]
def oe{KF KT:Int}{x y:TD}(hx:smT x)(hy:smT y)(h:oQ KF x KT y=0):RightE 2 d0 KF x KT y false false []:=by
 refine⟨⟨wC,hx,hy,λt a=>by cases a⟩,?_,by simp,by omega,by simp⟩;have c:eqD d0 d0=true:=eZ.2 rfl;have b:unuB 2 d0 KF x KT y false false ([]:List TI).length=false:=by unfold unuB;rw[c];rfl
 unfold ga;rw[ab (by omega),ab (by rw[b];simp),ab (by omega),ad rfl,h]
def EJ(x:TD):oC 1 x=if cF x=0 then if exT x=true then 0 else 11 else cF x:=by
 unfold oC chkB;rw[ad rfl];rfl
def o8{x:TD}(h:oC 1 x=0):cF x=0/\exT x=true:=by
 rw[EJ]at h;by_cases hc:cF x=0
 ·rw[ad hc]at h;by_cases a:exT x=true
  ·exact⟨hc,a⟩
  ·rw[ab a]at h;cases h
 ·rw[ab hc]at h;exact absurd h hc
def Hm{x:TD}(hc:cF x=0)(a:exT x=true):oC 1 x=0:=by
 rw[EJ,ad hc,ad a]
def wR{KF KT:Int}{x y:TD}(b:oC KF x=0)(a:oC KT y=0):oQ KF x KT y=if KF≠1/\KT≠1 then 11 else if KF≠1\/KT≠1 then 0 else if(dyT x).1>(dyT y).2 then 11 else 0:=by
 unfold oQ Ad;rw[b,a,ab (λh=>h rfl),ab (λh=>h rfl)]
def Jt{n x0:Nat}{L:List TR}{r:TR}(A:0<x0)(u:L[0]?=some r)(B:n=20000000)(w:wfR r){KF KT:Int}{x y:TD}(sx:smT x)(l:smT y)(c:oC KF x=0)(f:oC KT y=0)(X:List TI):
  ∃b g a d,fp n x0 (oQ KF x KT y != 0) L KF x KT y X=some (b,g,a,d,X)/\eT n x0 (oQ KF x KT y != 0) L KF x KT y X=some (b,g,a,d,X)/\
   smT g/\smT d/\oQ b g a d=0:=by
 subst B;unfold fp eT;by_cases hp:oQ KF x KT y=0
 ·rw[show(oQ KF x KT y != 0)=false from by simp[hp]];exact⟨KF,x,KT,y,rfl,rfl,sx,l,hp⟩
 ·rw[show(oQ KF x KT y != 0)=true from by simp[hp],am,am];unfold ia gQ;by_cases j:KF=1
  ·subst j;have k:KT=1:=by
    rw[wR c f]at hp;by_cases h:KT=1
    ·exact h
    ·rw[ab (by simp),ad (.inr h)]at hp;exact absurd rfl hp
   subst k;obtain⟨C,q⟩:=o8 c;obtain⟨t,o⟩:=o8 f;have F:=Je C q;have E:=Je t o;have s:(dyT x).1>(dyT y).2:=by
    rw[wR c f,ab (by simp),ab (by simp)]at hp;by_cases h:(dyT x).1>(dyT y).2
    ·exact h
    ·rw[ab h]at hp;exact absurd rfl hp
   refine⟨1,y,1,x,rfl,rfl,l,sx,?_⟩;rw[wR f c,ab (by simp),ab (by simp),ab (by omega)]
  ·obtain⟨z,e,m,D,v,_⟩:=ExI (d4 (d8 r)).1 w.2;have e':bg 20000000 (d8 r).2.2.2.1 (d4 (d8 r)).1 (d4 (d8 r)).2.1 (d4 (d8 r)).2.2.1 (d4 (d8 r)).2.2.2.1 (d16 r).1 (d16 r).2.1 (d16 r).2.2.1 (d16 r).2.2.2.1 (d4 (d16 r))=some z:=e;have p:ix x0 (0:Int)=some 0:=cK (i:=0) A;rw[show(KF != 1)=true from by simp[j],am,p];simp only[ob,u,e',u5,u4,u3,u2];refine⟨KF,x,1,z,rfl,rfl,sx,m,?_⟩;rw[wR c (Hm D v),ab (by simp),ad (.inl j)]
def Eu{L:List TR}(K:∀r∈L,wfR r){n:Nat}(J:1<=n)(G:n<=L.length)(H:n<=5){k:Int}(y:k=3\/k=4)(e l:Bool){I:List TI}(x:I.length=n)(hit:∀t∈I,smI t/\itI t (k==4)=0)
  {p q:TD} (u:smT p) (w:plT p=true) (z:smT q) (F:plT q=true):
  RightE k d0 0 d0 0 d0 e (!(decide (n=1)&&e)&&l) (if l=true then(if e=true then I.set 0 (mkI p false d0)else I).set (n - 1) (mkI q false d0)else if e=true then I.set 0 (mkI p false d0)else I):=by
 obtain⟨s,C,o⟩:=va (all:=(k==4)) u w;obtain⟨E,B,m⟩:=va (all:=(k==4)) z F;have i:∀t∈(if e=true then I.set 0 (mkI p false d0)else I),smI t/\itI t (k==4)=0:=by
  intro t c;split at c
  ·rcases EQ c with h | h
   ·exact hit t h
   ·rw[h];exact⟨s,C⟩
  ·exact hit t c
 have d:(if e=true then I.set 0 (mkI p false d0)else I).length=n:=by split<;>simp[x]
 have b:e=true->(if e=true then I.set 0 (mkI p false d0)else I)[0]?=some (mkI p false d0):=by
  intro h;rw[ad h,G3 (by omega)]
 generalize D:(if e=true then I.set 0 (mkI p false d0)else I)=A at i d b;have j:(if l=true then A.set (n - 1) (mkI q false d0)else A).length=n:=by split<;>simp[d]
 have v:∀t∈(if l=true then A.set (n - 1) (mkI q false d0)else A),smI t/\itI t (k==4)=0:=by
  intro t c;split at c
  ·rcases EQ c with h | h
   ·exact i t h
   ·rw[h];exact⟨E,B⟩
  ·exact i t c
 refine Gg y (by omega) (by omega) v (λf=>?_) (λa=>?_) (λf a=>?_)
 ·by_cases a:l=true
  ·rw[ad a];by_cases g:n=1
   ·subst g;exact⟨mkI q false d0,by rw[G3 (by omega)],m⟩
   ·exact⟨mkI p false d0,by rw[List.getElem?_set_ne (by omega)];exact b f,o⟩
  ·rw[ab a];exact⟨_,b f,o⟩
 ·simp only[aC]at a;rw[ad a.2,vV,d];exact⟨mkI q false d0,by rw[G3 (by omega)],m⟩
 ·rw[f]at a;simp only[uQ,aC,jd,sI]at a;rw[j];exact a.1
def K7:wfR ((0,false,0,0,0,0,0,0,0,0,0,0,false,0,0,0,0,0,0,0,0):TR):=by
 have z:natI 0 256:=⟨by omega,by omega⟩;have z2:natI 0 65536:=⟨by omega,by omega⟩;exact⟨⟨z,z2,z,z,z,z,z,z,z⟩,⟨z,z2,z,z,z,z,z,z,z⟩⟩
def min5(m:Nat):cond (decide ((5:Int)<((m:Nat):Int))) 5 ((m:Nat):Int)=((min 5 m:Nat):Int):=by
 by_cases h:5<m
 ·rw[au (by omega),am];omega
 ·rw[ar (by omega),af];omega
def LR(k:Nat):((((k%8:Nat):Int)==0)||((((k%8:Nat):Int)==1)||(((k%8:Nat):Int)==2)))=decide (k%8<3)/\((((k%8:Nat):Int)==3)||(((k%8:Nat):Int)==4))=decide (k%8=3\/k%8=4):=by
 have h:k%8<8:=m9 _ (by omega);generalize k%8=j at *;rcases(by omega:j=0\/j=1\/j=2\/j=3\/j=4\/j=5\/j=6\/j=7)with rfl | rfl | rfl | rfl | rfl | rfl | rfl | rfl<;>decide
def E_of{K O J B:Int}(hK:natI K 256)(h0:natI O 256)(h1:natI J 256)(hB:natI B 256){L:List TR}(hL:∀r∈L,wfR r):
  ∃k D KF DF KT DT e l I,gx 20000000 K O J B L=some (k,D,KF,DF,KT,DT,e,l,I)/\RightE k D KF DF KT DT e l I:=by
 obtain⟨K,rfl,bK⟩:=hK.nat;have N:Int.tmod (K:Int) 8=((K%8:Nat):Int):=rfl;obtain⟨k1,k2⟩:=LR K;unfold gx iU;rw[show(len L==0)=decide (L.length=0)from ze _];generalize s:(if L=[]then[(0,false,0,0,0,0,0,0,0,0,0,0,false,0,0,0,0,0,0,0,0)]else L:List TR)=M;have d:∀r∈M,wfR r:=by
  intro r b;rw[<-s]at b;split at b
  ·rw[lx.1 b];exact K7
  ·exact hL r b
 have hMl:1<=M.length:=by
  rw[<-s];split
  ·simp
  ·rename_i h;exact List.length_pos_iff.2 h
 have C:min 5 M.length<=M.length:=zW _ _;have A:1<=min 5 M.length:=by omega
 have j:min 5 M.length<=5:=Nat.min_le_left _ _;obtain⟨r,b⟩:∃r,M[0]?=some r:=⟨M[0],bj (by omega)⟩;obtain⟨r',o⟩:∃r,M[min 5 M.length - 1]?=some r:=⟨M[min 5 M.length - 1],bj (by omega)⟩;have t:=d r (dY b);have hw':=d r' (dY o);obtain⟨x,ex,sx,Z⟩:=DofI r.2.1 t.1;obtain⟨KF,Y,y,f,v,_⟩:=BofI r.2.1 h0 t.1;obtain⟨KT,bt,F,m,u,_⟩:=BofI (d4 (d8 r)).1 h1 t.2;obtain⟨p,X,W,pp⟩:=AB r.2.1 t.1;obtain⟨q,eq,sq,pq⟩:=AB r'.2.1 hw'.1;have H:ix (min 5 M.length) (0:Int)=some 0:=cK (i:=0) (by omega);have G:bx M.length (cond (decide ((5:Int)<len M)) 5 (len M))=some (min 5 M.length):=by
  rw[show(cond (decide ((5:Int)<len M)) 5 (len M))=((min 5 M.length:Nat):Int)from min5 _,eN C]
 have a:w64 (((min 5 M.length:Nat):Int) - 1)=((min 5 M.length - 1:Nat):Int):=zy (by omega) (by omega);have E:(((min 5 M.length - 1:Nat):Int)==0)=decide (min 5 M.length=1):=by
  rw[ze];congr 1;exact propext (by omega)
 by_cases c:L=[]
 ·rw[ad c]at s;subst c;rw[show decide (([]:List TR).length=0)=true from rfl,am];simp only[obs,sm,ob,u7,u6,u5,u4,u3,u2,s,G,N,(On _ _ _ _ _ _ _ _ _ _ _).1,u10,u9,u8,k1];by_cases hs:K%8<3
  ·rw[au hs];simp only[am,H,b,ex];exact⟨_,_,_,_,_,_,_,_,_,rfl,qT sx Z⟩
  rw[ar hs];simp only[af,(Jq _ _ _ _ _ _ _ _ _ _ _).1,u9,u8,u7,u6,u5,u4,u3,u2,k2];by_cases w:K%8=3\/K%8=4
  ·rw[au w];have ebf':bG 20000000 O r.1 r.2.1 r.2.2.1 r.2.2.2.1 (d4 r).1 (d4 r).2.1 (d4 r).2.2.1 (d4 r).2.2.2.1 (d8 r).1 (d8 r).2.1=some (KF,Y):=y;have ebt':bG 20000000 J (d8 r).2.2.2.1 (d4 (d8 r)).1 (d4 (d8 r)).2.1 (d4 (d8 r)).2.2.1 (d4 (d8 r)).2.2.2.1 (d16 r).1 (d16 r).2.1 (d16 r).2.2.1 (d16 r).2.2.2.1 (d4 (d16 r))=some (KT,bt):=F;obtain⟨S,x',Q,y',j1,_,R,V,hp⟩:=Jt (n:=20000000) (x0:=min 5 M.length) (by omega) b rfl t f m v u ([]:List TI);simp only[am,H,b,ebf',ebt',yR f m,j1,u5,u4,u3,u2];exact⟨_,_,_,_,_,_,_,_,_,rfl,oe R V hp⟩
  rw[ar w];generalize(Int.tmod B 2==1)=e;generalize(Int.tmod (w8 (Int.tdiv B 2)) 2==1)=l;rw[N];generalize(((K%8:Nat):Int)==7)=g;obtain⟨I,z,P,U,_⟩:=Bv d C j (if g=true then 4 else 3) e l [];have T:(if g=true then(4:Int)else 3)=3\/(if g=true then(4:Int)else 3)=4:=by cases g<;>simp
  simp only[af,(Jd _ _ _ _ _ _ _ _).1,U,a,u7,u6,u5,u4,u3,u2];simp only[u20,u19,u18,u17,u16,u15,u14,u13,u12,u11,u10,u9,u8,u7,u6,u5,u4,u3,u2];rw[(Jh 20000000 _ _ _ _ _ _ _ _ _ _ _ _ _ _ _ _ _ _ _ _ _ (by omega) b (by omega) X).1];simp only[u21,u20,u19,u18,u17,u16,u15,u14,u13,u12,u11,u10,u9,u8,u7,u6,u5,u4,u3,u2];rw[a,(JG 20000000 (min 5 M.length) (min 5 M.length - 1) _ _ _ _ _ _ _ _ _ _ _ _ _ _ _ _ _ _ _ (by omega) o (by split<;>simp[z]<;>omega) eq).1];simp only[u21,u20,u19,u18,u17,u16,u15,u14,u13,u12,u11,u10,u9,u8,u7,u6,u5,u4,u3,u2,JI,Jm,E];exact⟨_,_,_,_,_,_,_,_,_,rfl,Eu d A C j T e l z P W pp sq pq⟩
 ·rw[ab c]at s;subst s;rw[ar (show¬L.length=0 fromλh=>c (sN h)),af];simp only[obs,sm,ob,u7,u6,u5,u4,u3,u2,G,N,(On _ _ _ _ _ _ _ _ _ [] _).2,u10,u9,u8,k1];by_cases hs:K%8<3
  ·rw[au hs];simp only[am,H,b,ex];exact⟨_,_,_,_,_,_,_,_,_,rfl,qT sx Z⟩
  rw[ar hs];simp only[af,(Jq _ _ _ _ _ _ _ _ _ [] _).2,u9,u8,u7,u6,u5,u4,u3,u2,k2];by_cases w:K%8=3\/K%8=4
  ·rw[au w];have ebf':bG 20000000 O r.1 r.2.1 r.2.2.1 r.2.2.2.1 (d4 r).1 (d4 r).2.1 (d4 r).2.2.1 (d4 r).2.2.2.1 (d8 r).1 (d8 r).2.1=some (KF,Y):=y;have ebt':bG 20000000 J (d8 r).2.2.2.1 (d4 (d8 r)).1 (d4 (d8 r)).2.1 (d4 (d8 r)).2.2.1 (d4 (d8 r)).2.2.2.1 (d16 r).1 (d16 r).2.1 (d16 r).2.2.1 (d16 r).2.2.2.1 (d4 (d16 r))=some (KT,bt):=F;obtain⟨S,x',Q,y',_,j1,R,V,hp⟩:=Jt (n:=20000000) (x0:=min 5 L.length) (by omega) b rfl t f m v u ([]:List TI);simp only[am,H,b,ebf',ebt',yR f m,j1,u5,u4,u3,u2];exact⟨_,_,_,_,_,_,_,_,_,rfl,oe R V hp⟩
  rw[ar w];generalize(Int.tmod B 2==1)=e;generalize(Int.tmod (w8 (Int.tdiv B 2)) 2==1)=l;rw[N];generalize(((K%8:Nat):Int)==7)=g;obtain⟨I,z,P,_,U⟩:=Bv d C j (if g=true then 4 else 3) e l [];have T:(if g=true then(4:Int)else 3)=3\/(if g=true then(4:Int)else 3)=4:=by cases g<;>simp
  simp only[af,(Jd _ _ _ _ _ _ _ _).2,U,a,u7,u6,u5,u4,u3,u2];simp only[u20,u19,u18,u17,u16,u15,u14,u13,u12,u11,u10,u9,u8,u7,u6,u5,u4,u3,u2];rw[(Jh 20000000 _ _ _ _ _ _ _ _ _ _ _ _ _ _ _ _ _ _ _ _ _ (by omega) b (by omega) X).2];simp only[u21,u20,u19,u18,u17,u16,u15,u14,u13,u12,u11,u10,u9,u8,u7,u6,u5,u4,u3,u2];rw[a,(JG 20000000 (min 5 L.length) (min 5 L.length - 1) _ _ _ _ _ _ _ _ _ _ _ _ _ _ _ _ _ _ _ (by omega) o (by split<;>simp[z]<;>omega) eq).2];simp only[u21,u20,u19,u18,u17,u16,u15,u14,u13,u12,u11,u10,u9,u8,u7,u6,u5,u4,u3,u2,JI,Jm,E];exact⟨_,_,_,_,_,_,_,_,_,rfl,Eu d A C j T e l z P W pp sq pq⟩
def Iu:fO 20000000=some true:=by kernel_rfl
noncomputable instance decTI:DecidableEq TI:=λa b=>Classical.propDecidable (a=b)
def zA{t u:TI}:((eqD (iF t) (iF u))&&(((d8 t).2.2.1==(d8 u).2.2.1)&&((eqD (d8 t).2.2.2 (d8 u).2.2.2)&&true)))=decide (t=u):=by
 rw[uB,decide_eq_true_iff];have hs:∀a b c:Bool,(a&&(b&&(c&&true)))=true↔a=true/\b=true/\c=true:=by decide
 rw[hs,eZ,eZ,bI];obtain⟨w,s,n,o,i,x,r,l,p,e,b,c⟩:=t;obtain⟨k,h,q,j,z,y,A,m,v,d,f,g⟩:=u;simp only[cJ,and_assoc]
noncomputable def difI(J:List TI)(i:Nat)(t:TI):Int:=if J[i]?=some t then 0 else 1
def EC{J:List TI}:∀(I:List TI) (i:Nat),i+I.length=J.length->(kX (difI J) i I=none↔I=J.drop i)
 | [],i,h=>by
  rw[kX,oi (by simp at h;omega)];simp
 | t::r,i,h=>by
  have hi:i<J.length:=by simp at h;omega
  have b:J[i]?=some J[i]:=bj hi;rw[kX,pF hi];unfold difI;by_cases a:J[i]?=some t
  ·rw[ad a,ab (by simp)];have:=EC (J:=J) r (i+1) (by simp at h;omega);unfold difI at this;rw[this];rw[b]at a;simp only[aq]at a;simp[a]
  ·rw[ab a,ad (by simp)];rw[b]at a;simp only[aq]at a;simp only[xN];constructor
   ·intro h;cases h
   ·rintro⟨h,_⟩;exact absurd h.symm a
def Av(I J:List TI)(h:I.length=J.length){A:Type}(a b:A):(match kX (difI J) 0 I with | some _=>a | none=>b)=if I=J then b else a:=by
 have:=EC (J:=J) I 0 (by omega);rw[gk]at this;cases hs:kX (difI J) 0 I with
 | none=>rw[ad (this.1 hs)]
 | some p=>rw[ab (λh=>by rw[this.2 h]at hs;cases hs)]
def vJ{I J:List TI}(h:I.length=J.length)(hn:I.length<=1000000)(k:Int)(D:TD)(KF:Int)(DF:TD)(KT:Int)(DT:TD)(e l:Bool)(k':Int)(D':TD)(KF':Int)(DF':TD)(KT':Int)(DT':TD)(e' l':Bool):
  aw (ca 20000000) 20000000 (0,I,J,k,D,KF,DF,KT,DT,e,l,k',D',KF',DF',KT',DT',e',l')=some (if I=J then .inr ()else .inl 0):=by
 have e2:(match kX (difI J) 0 I with | some p=>(.inl 0:Int⊕Unit) | none=>.inr ())=if I=J then .inr ()else .inl 0:=Av I J h _ _
 rw[<-e2];have:=nR (step:=ca 20000000) (st:=λi=>((i:Int),I,J,k,D,KF,DF,KT,DT,e,l,k',D',KF',DF',KT',DT',e',l')) (L:=I) (f:=difI J) (yes:=λ_ _=>.inl (0:Int)) (no:=.inr ()) ?_ ?_ I.length 0 (by omega) 20000000 (by omega)
 ·rw[gk]at this;exact this
 ·intro i t ht;have hi:i<I.length:=(lu.1 ht).1;have hj:J[i]?=some (J[i]'(by omega)):=bj (by omega);generalize J[i]'(by omega)=u at hj;unfold ca;simp only[u19,u18,u17,u16,u15,u14,u13,u12,u11,u10,u9,u8,u7,u6,u5,u4,u3,u2];rw[au (show(i:Int)<len I by show(i:Int)<((I.length:Nat):Int);omega),cK hi,cK (show i<J.length by omega)];simp only[am,ob,ht,hj,zA];rw[ly (by omega)];unfold difI;rw[hj];by_cases he:t=u
  ·rw[au he,ab (by simp[he])];rfl
  ·rw[ar he,ad (by simp only[aq];rw[ab (λh=>he h.symm)];simp)];rfl
 ·unfold ca;simp only[u19,u18,u17,u16,u15,u14,u13,u12,u11,u10,u9,u8,u7,u6,u5,u4,u3,u2];rw[ar (show¬((I.length:Nat):Int)<len I by show¬((I.length:Nat):Int)<((I.length:Nat):Int);omega)];rfl
def uW{A B X Y:Type}{step:X->Option (X⊕Y)}{st:Nat->List B->X}{fin:List B->Y}{L:List A}{f:A->List B}{c:Nat}(g:∀t,(f t).length<=2)
  (e:∀i t acc,L[i]?=some t->acc.length<=c+2*i->step (st i acc)=some (.inl (st (i+1) (acc++f t)))) (d:∀acc,step (st L.length acc)=some (.inr (fin acc))):
  ∀(r i:Nat) (acc:List B),i+r=L.length->acc.length<=c+2*i->∀N,r<N->aw step N (st i acc)=some (fin (acc++(L.drop i).flatMap f)):=by
 intro r
 induction r with
 | zero=>
  intro i acc hi b N h;obtain⟨N,rfl⟩:∃k,N=k+1:=⟨N - 1,by omega⟩;rw[aw,show i=L.length by omega,d,yP];simp
 | succ r ih=>
  intro i acc hi b N h;obtain⟨N,rfl⟩:∃k,N=k+1:=⟨N - 1,by omega⟩;have a:i<L.length:=by omega
  rw[aw,e i _ acc (bj a) b,pF a,jY,<-rU];refine ih (i+1) _ (by omega) ?_ N (by omega);have:=g L[i];rw[gv];omega
def datI(t:TI):List TD:=if rT t=true then[iF t,iT t]else[iF t]
def rH(t:TI):(datI t).length<=2:=by unfold datI;split<;>simp
def datE(k:Int)(D:TD)(KF:Int)(DF:TD)(KT:Int)(DT:TD)(I:List TI):List TD:=
 if k=1 then[D]else if k=2 then(if KF=1 then(if KT=1 then[DF,DT]else[DF])else if KT=1 then[DT]else[])else if k=3\/k=4 then I.flatMap datI else[]
def H6{B:Type}{acc:List B}(h:acc.length<=3000000):Nat.ble (acc.length+1) bE=true:=dl (by unfold bE;omega)
def vY{I:List TI}(d:I.length<=1000000):aw (eo 20000000) 20000000 (len I,0,I,([]:List TD))=some (I.flatMap datI):=by
 have:=uW (step:=eo 20000000) (st:=λi acc=>(len I,(i:Int),I,acc)) (fin:=λacc=>acc) (L:=I) (f:=datI) (c:=0) rH ?_ ?_ I.length 0 [] (by omega) (by simp) 20000000 (by omega)
 ·rw[gk,gP]at this;exact this
 ·intro i t acc a b;have hi:i<I.length:=(lu.1 a).1;unfold eo;simp only[u4,u3,u2];rw[au (show(i:Int)<len I by show(i:Int)<((I.length:Nat):Int);omega),cK hi];simp only[am,ob,a,H6 (acc:=acc) (by omega),H6 (acc:=acc++[iF t]) (by simp;omega)];rw[ly (by omega)];unfold datI;show cond (rT t) _ _=_;cases rT t
  ·rfl
  ·show(some (Sum.inl (len I,((i+1:Nat):Int),I,(acc++[iF t])++[iT t])):Option ((Int×Int×List TI×List TD)⊕List TD))=_;rw[rU];rfl
 ·intro acc;unfold eo;simp only[u4,u3,u2];rw[ar (show¬((I.length:Nat):Int)<len I by show¬((I.length:Nat):Int)<((I.length:Nat):Int);omega)];rfl
def O6(L:List TD):aD 20000000 L=some (L.length,L.length):=by
 unfold aD;rw[eN (aV _)];show ob (bx L.length ((L.length:Nat):Int)) _=_;rw[eN (aV _)];rfl
def Ii{I:List TI}(d:I.length<=1000000)(k:Int)(D:TD)(KF:Int)(DF:TD)(KT:Int)(DT:TD)(e l:Bool):
  kI 20000000 k D KF DF KT DT e l I=some ((datE k D KF DF KT DT I).length,(datE k D KF DF KT DT I).length,datE k D KF DF KT DT I):=by
 unfold kI datE;rw[vY d];simp only[O6,ob,u2];by_cases k1:k=1
 ·rw[ad k1,show(k==1)=true from by simp[k1]];rfl
 by_cases k2:k=2
 ·rw[ab k1,ad k2,show(k==1)=false from by simp[k1],show(k==2)=true from by simp[k2]];by_cases b:KF=1
  ·rw[ad b,show(KF==1)=true from by simp[b]];by_cases a:KT=1
   ·rw[ad a,show(KT==1)=true from by simp[a]];rfl
   ·rw[ab a,show(KT==1)=false from by simp[a]];rfl
  ·rw[ab b,show(KF==1)=false from by simp[b]];by_cases a:KT=1
   ·rw[ad a,show(KT==1)=true from by simp[a]];rfl
   ·rw[ab a,show(KT==1)=false from by simp[a]];rfl
 rw[ab k1,ab k2,show(k==1)=false from by simp[k1],show(k==2)=false from by simp[k2]];by_cases k3:k=3
 ·rw[ad (.inl k3),show(k==3)=true from by simp[k3]];rfl
 by_cases c:k=4
 ·rw[ad (.inr c),show(k==3)=false from by simp[k3],show(k==4)=true from by simp[c]];rfl
 rw[ab (by omega),show(k==3)=false from by simp[k3],show(k==4)=false from by simp[c]];rfl
def ux{I:List TI}(g:I.length<=1000000){k:Int}(D:TD)(KF:Int)(DF:TD)(KT:Int)(DT:TD)(e l:Bool)(d:k=3\/k=4):
  aw (ay 20000000) 20000000 (0,I,k,D,KF,DF,KT,DT,e,l,([]:List TD))=some (I.flatMap datI):=by
 have:=uW (step:=ay 20000000) (st:=λi acc=>((i:Int),I,k,D,KF,DF,KT,DT,e,l,acc)) (fin:=λacc=>acc) (L:=I) (f:=datI) (c:=0) rH ?_ ?_ I.length 0 [] (by omega) (by simp) 20000000 (by omega)
 ·rw[gk,gP]at this;exact this
 ·intro i t acc b h;have hi:i<I.length:=(lu.1 b).1;unfold ay;simp only[u11,u10,u9,u8,u7,u6,u5,u4,u3,u2];rw[au (show(i:Int)<len I by show(i:Int)<((I.length:Nat):Int);omega),cK hi];simp only[am,ob,b,H6 (acc:=acc) (by omega),H6 (acc:=acc++[iF t]) (by simp;omega)];rw[ly (by omega)];have a:(cond (rT t) (some (.inl (((i+1:Nat):Int),I,k,D,KF,DF,KT,DT,e,l,(acc++[iF t])++[iT t]))) (some (.inl (((i+1:Nat):Int),I,k,D,KF,DF,KT,DT,e,l,acc++[iF t]))):Option ((Int×List TI×Int×TD×Int×TD×Int×TD×Bool×Bool×List TD)⊕(List TD)))=some (.inl (((i+1:Nat):Int),I,k,D,KF,DF,KT,DT,e,l,acc++datI t)):=by
   unfold datI;cases rT t
   ·rfl
   ·rw[am,rU];rfl
  by_cases k3:k=3
  ·rw[show(k==3)=true from by simp[k3]];exact a
  ·rw[show(k==3)=false from by simp[k3],show(k==4)=true from by simp;omega];exact a
 ·intro acc;unfold ay;simp only[u11,u10,u9,u8,u7,u6,u5,u4,u3,u2];rw[ar (show¬((I.length:Nat):Int)<len I by show¬((I.length:Nat):Int)<((I.length:Nat):Int);omega)];rfl
def lD{I:List TI}{k:Int}(D:TD)(KF:Int)(DF:TD)(KT:Int)(DT:TD)(e l:Bool)(a:k≠3)(b:k≠4)(acc:List TD):
  aw (ay 20000000) 20000000 (0,I,k,D,KF,DF,KT,DT,e,l,acc)=some acc:=by
 have:ay 20000000 (0,I,k,D,KF,DF,KT,DT,e,l,acc)=some (.inr acc):=by
  unfold ay;simp only[u11,u10,u9,u8,u7,u6,u5,u4,u3,u2];rw[show(k==3)=false from by simp[a],show(k==4)=false from by simp[b]];cases decide ((0:Int)<len I)<;>rfl
 rw[show 20000000=19999999+1 from rfl,aw,this]
def zI{I:List TI}(d:I.length<=1000000)(k:Int)(D:TD)(KF:Int)(DF:TD)(KT:Int)(DT:TD)(e l:Bool):hJ 20000000 k D KF DF KT DT e l I=some (datE k D KF DF KT DT I):=by
 unfold hJ datE;by_cases k1:k=1
 ·rw[ad k1,show(k==1)=true from by simp[k1],show(k==2)=false from by simp[k1]];simp only[am,af,ob,lD D KF DF KT DT e l (by omega:k≠3) (by omega:k≠4)]
 by_cases k2:k=2
 ·rw[ab k1,ad k2,show(k==1)=false from by simp[k1],show(k==2)=true from by simp[k2]];simp only[am,af,ob,lD D KF DF KT DT e l (by omega:k≠3) (by omega:k≠4)];by_cases c:KF=1
  ·rw[ad c,show(KF==1)=true from by simp[c]];by_cases a:KT=1
   ·rw[ad a,show(KT==1)=true from by simp[a]];rfl
   ·rw[ab a,show(KT==1)=false from by simp[a]];rfl
  ·rw[ab c,show(KF==1)=false from by simp[c]];by_cases a:KT=1
   ·rw[ad a,show(KT==1)=true from by simp[a]];rfl
   ·rw[ab a,show(KT==1)=false from by simp[a]];rfl
 rw[ab k1,ab k2,show(k==1)=false from by simp[k1],show(k==2)=false from by simp[k2]];simp only[af];by_cases b:k=3\/k=4
 ·rw[ad b,ux d D KF DF KT DT e l b];rfl
 ·rw[ab b,lD D KF DF KT DT e l (by omega) (by omega)];rfl
def Iy(k:Int)(D:TD)(KF:Int)(DF:TD)(KT:Int)(DT:TD){I:List TI}(b:I.length<=1000000):(datE k D KF DF KT DT I).length<=3000000:=by
 have a:∀I:List TI,(I.flatMap datI).length<=2*I.length:=by
  intro I
  induction I with
  | nil=>simp
  | cons t r ih=>
   have:=rH t;rw[jY,gv,cU];omega
 have:=a I;unfold datE;split
 ·simp
 split
 ·split<;>split<;>simp
 split
 ·omega
 ·simp
def yF{X a Y b:Type}{s:X->Option (X⊕Y)}{s':a->Option (a⊕b)}(f:X->a)(g:Y->b)(h:∀x,s' (f x)=(s x).map (Sum.map f g)):∀(n:Nat) (x:X),aw s' n (f x)=(aw s n x).map g
 | 0,_=>rfl
 | n+1,x=>by
  rw[aw,aw,h];cases s x with
  | none=>rfl
  | some z=>
   cases z with
   | inl y=>exact yF f g h n y
   | inr y=>rfl
noncomputable def setE(K:Int)(e l:Bool)(I:List TI):Int×Int:=ga K d0 0 d0 0 d0 e l I
def OK(n:Nat)(I:List TI):cq n I=some (I.length,I.length):=by
 unfold cq;rw[eN (aV _)];show ob (bx I.length ((I.length:Nat):Int)) _=_;rw[eN (aV _)];rfl
structure OkI(t:TI):Prop where
 sm:smI t
 a:cF (iF t)=0
 b:rT t=true->cF (iT t)=0
 n:rT t=false->iT t=d0
def tP{x y:TD}{r all:Bool}(h:itE x r y all=0):cF x=0/\(r=true->cF y=0)/\(r=false->y=d0)/\itE x r y false=0:=by
 by_cases hc:cF x=0
 ·refine⟨hc,?_⟩;cases r
  ·rw[Fo hc]at h ⊢;have hy:eqD y d0=true:=by
    cases a:eqD y d0
    ·rw[a]at h;simp at h
    ·rfl
   exact⟨λh=>(by cases h),λ_=>eZ.1 hy,by rw[hy];simp⟩
  ·by_cases hy:cF y=0
   ·rw[Hy hc hy]at h ⊢;have b:ordB x y=true:=by
     cases a:ordB x y
     ·rw[a]at h;simp at h
     ·rfl
    exact⟨λ_=>hy,λh=>(by cases h),by rw[b];simp⟩
   ·rw[Jp hc hy]at h;exact absurd h hy
 ·rw[Nq hc]at h;exact absurd h hc
def Oe{t:TI}{all:Bool}(hs:smI t)(h:itI t all=0):OkI t:=by
 obtain⟨a,b,c,_⟩:=tP h;exact⟨hs,a,b,c⟩
structure SetP(K:Int)(D:TD)(KF:Int)(DF:TD)(KT:Int)(DT:TD)(e l:Bool)(I:List TI):Prop where
 kind:K=3\/K=4
 d:D=d0
 kf:KF=0
 df:DF=d0
 kt:KT=0
 dt:DT=d0
 one:1<=I.length
 most:I.length<=256
 its:∀t∈I,itI t (K==4)=0
 set:(setE K e l I).2=0
def uC{A:Type}{f:Nat->A->Int}:∀{L:List A} {k:Nat},kX f k L=none->∀t∈L,∃i,f i t=0
 | u::L,k,h,t,a=>by
  rw[kX]at h;split at h
  ·cases h
  ·rename_i b;rcases bX.1 a with rfl | a
   ·exact⟨k,CH.1 b⟩
   ·exact uC h t a
def ww{A:Type}{f:Nat->A->Int}:∀{L:List A} {k:Nat} {p:Nat×Int},kX f k L=some p->p.2≠0
 | u::L,k,p,h=>by
  rw[kX]at h;split at h
  ·rename_i a;cases h;exact a
  ·exact ww h
def N6{K:Int}{e l:Bool}{n i:Nat}{t:TI}(h:errI K e l n i t=0):itI t (K==4)=0:=by
 unfold errI at h;split at h
 ·rename_i a;exact absurd h a
 ·rename_i a;exact CH.1 a
def sL{K:Int}(g:K=3\/K=4){D:TD}{KF:Int}{DF:TD}{KT:Int}{DT:TD}{e l:Bool}{I:List TI}(h:(ga K D KF DF KT DT e l I).2=0):SetP K D KF DF KT DT e l I:=by
 have m:=h;unfold ga at h;rw[ab (by omega)]at h;split at h
 ·simp at h
 ·rename_i f;rw[ab (by omega),ab (by omega)]at h;split at h
  ·simp at h
  ·split at h
   ·simp at h
   ·unfold tL at h;have n:D=d0/\KF=0/\DF=d0/\KT=0/\DT=d0:=by
     unfold unuB at f;have k1:(K==1)=false:=by rcases g with rfl | rfl<;>rfl
     have k2:(K==2)=false:=by rcases g with rfl | rfl<;>rfl
     have k3:(K==3||(K==4||(decide (I.length=0)&&(!e&&!l))))=true:=by rcases g with rfl | rfl<;>rfl
     rw[k1,k2,k3]at f;generalize o:eqD D d0=z1 at f;generalize k:eqD DF d0=z2 at f;generalize j:eqD DT d0=r at f;simp only[sU,dD,Bool.or_false,uQ,fP,jd,not_or,Bool.not_eq_false,aC,bI]at f;obtain⟨a,⟨b,c⟩,d,e⟩:=f;exact⟨eZ.1 (o.trans a),b,eZ.1 (k.trans c),d,eZ.1 (j.trans e)⟩
    obtain⟨rfl,rfl,rfl,rfl,rfl⟩:=n;cases hs:kX (errI K e l I.length) 0 I with
    | some p=>rw[hs]at h;exact absurd h (ww hs)
    | none=>
     refine⟨g,rfl,rfl,rfl,rfl,rfl,by omega,by omega,λt q=>?_,m⟩;obtain⟨i,hi⟩:=uC hs t q;exact N6 hi
def MQ{K:Int}{D:TD}{KF:Int}{DF:TD}{KT:Int}{DT:TD}{e l:Bool}{I:List TI}(p:SetP K D KF DF KT DT e l I)(hs:∀t∈I,smI t):∀t∈I,OkI t/\itI t false=0:=
 λt a=>⟨Oe (hs t a) (p.its t a),(tP (p.its t a)).2.2.2⟩
def yA(K:Int)(D:TD)(KF:Int)(DF:TD)(KT:Int)(DT:TD)(e l:Bool){I:List TI}(b:I.length<=1000000):fa 20000000 K D KF DF KT DT e l K D KF DF KT DT e l I I=some 1:=by
 unfold fa;rw[vJ rfl b,ad rfl];have a:∀x:TD,eqD x x=true:=λx=>eZ.2 rfl;simp only[a,o9,eG,af,AS,dD,obs,sm,ob]
def J9(n:Nat)(K:Int)(D:TD)(KF:Int)(DF:TD)(KT:Int)(DT:TD)(c:Nat)(e l:Bool)(z:Int)(A:TD)(d:Int)(f:TD)(b:Int)(g:TD)(x y:Bool)(I J:List TI):
  eh n K D KF DF KT DT I.length c e l z A d f b g x y I J=fa n K D KF DF KT DT e l z A d f b g x y I J:=by
 unfold eh fa;have:=yF (s:=ca n) (s':=ef n) (u19 λx0 a w F E B L G H C m r k q v o x16 p h=>(x0,a,w,F,E,B,L,G,H,a.length,c,C,m,r,k,q,v,o,x16,p,h)) id (by
  rintro⟨x0,a,w,F,E,B,L,G,H,C,m,r,k,q,v,o,x16,p,h⟩;unfold ca ef;simp only[u21,u20,u19,u18,u17,u16,u15,u14,u13,u12,u11,u10,u9,u8,u7,u6,u5,u4,u3,u2,zA];rw[show decide (x0<((a.length:Nat):Int))=decide (x0<len a)from rfl];cases decide (x0<len a)
  ·rfl
  ·simp only[am];cases ix a.length x0 with
   | none=>rfl
   | some i=>
    simp only[ob];cases a[i]? with
    | none=>rfl
    | some t=>
     simp only[ob];cases ix w.length x0 with
     | none=>rfl
     | some j=>
      simp only[ob];cases w[j]? with
      | none=>rfl
      | some u=>
       simp only[ob];cases decide (t=u)<;>rfl) n (0,I,J,K,D,KF,DF,KT,DT,e,l,z,A,d,f,b,g,x,y)
 simp only[u19,u18,u17,u16,u15,u14,u13,u12,u11,u10,u9,u8,u7,u6,u5,u4,u3,u2,Option.map_id,id]at this;rw[this]
def xE(K:Int)(D:TD)(KF:Int)(DF:TD)(KT:Int)(DT:TD)(c:Nat)(e l:Bool){I:List TI}(a:I.length<=1000000):eh 20000000 K D KF DF KT DT I.length c e l K D KF DF KT DT e l I I=some 1:=
 (J9 _ _ _ _ _ _ _ _ _ _ _ _ _ _ _ _ _ _ _ _).trans (yA K D KF DF KT DT e l a)
def okB(K:Int)(x:TD):Prop:=(K=1/\cF x=0/\exT x=true)\/((K=2\/K=3)/\x=d0)
def I3{K:Int}{x:TD}(h:oC K x=0):okB K x:=by
 by_cases c:K=1
 ·subst c;obtain⟨a,b⟩:=o8 h;exact .inl ⟨rfl,a,b⟩
 ·unfold oC chkB at h;rw[ab c]at h;split at h
  ·rename_i e;split at h
   ·rename_i d;exact .inr ⟨e,eZ.1 d⟩
   ·cases h
  ·cases h
def C2{KF KT:Int}{x y:TD}(h:oQ KF x KT y=0):okB KF x/\okB KT y/\(KF=1\/KT=1):=by
 unfold oQ Ad at h;by_cases b:oC KF x=0
 ·rw[ab (λz=>z b)]at h;by_cases a:oC KT y=0
  ·rw[ab (λz=>z a)]at h;split at h
   ·cases h
   ·rename_i c;exact⟨I3 b,I3 a,by omega⟩
  ·rw[ad a]at h;exact absurd h a
 ·rw[ad b]at h;exact absurd h b
inductive RightP:Int->TD->Int->TD->Int->TD->Bool->Bool->List TI->Prop where
 | single {x:TD} (hs:smT x) (hc:cF x=0):RightP 1 x 0 d0 0 d0 false false []
 | interval {KF:Int} {x:TD} {KT:Int} {y:TD} (hx:smT x) (hy:smT y) (hp:oQ KF x KT y=0):RightP 2 d0 KF x KT y false false []
 | set {K:Int} {e l:Bool} {I:List TI} (P:SetP K d0 0 d0 0 d0 e l I) (hs:∀t∈I,smI t):RightP K d0 0 d0 0 d0 e l I
def ED{k:Int}{D:TD}{KF:Int}{DF:TD}{KT:Int}{DT:TD}{e l:Bool}{I:List TI}(hs:smE D DF DT I)(h:(ga k D KF DF KT DT e l I).2=0):RightP k D KF DF KT DT e l I:=by
 by_cases j:k=3\/k=4
 ·have P:=sL j h;obtain⟨rfl,rfl,rfl,rfl,rfl⟩:D=d0/\KF=0/\DF=d0/\KT=0/\DT=d0:=⟨P.d,P.kf,P.df,P.kt,P.dt⟩;exact .set P hs.2.2.2
 ·unfold ga at h;split at h
  ·simp at h
  ·split at h
   ·simp at h
   ·rename_i s a;unfold unuB at a;generalize z1:eqD D d0=p at a;generalize z2:eqD DF d0=r at a;generalize o:eqD DT d0=q at a;by_cases k1:k=1
    ·subst k1;rw[ad rfl]at h;simp at a;obtain⟨⟨⟨c,g⟩,b,f⟩,m,i,n⟩:=a;subst c b m i n;rw[eZ.1 (z2.trans g),eZ.1 (o.trans f)];exact .single hs.1 h
    ·have k2:k=2:=by omega
     subst k2;rw[ab (by omega),ad rfl]at h;simp at a;obtain⟨c,g,b,f⟩:=a;subst g b f;rw[eZ.1 (z1.trans c)];exact .interval hs.2.1 hs.2.2.1 h
def okDs(L:List TD):Prop:=∀x∈L,smT x/\cF x=0
def LA{k:Int}{D:TD}{KF:Int}{DF:TD}{KT:Int}{DT:TD}{e l:Bool}{I:List TI}(h:RightP k D KF DF KT DT e l I):okDs (datE k D KF DF KT DT I):=by
 intro x hx;cases h with
 | single hs hc=>
  unfold datE at hx;rw[ad rfl]at hx;rw[lx.1 hx];exact⟨hs,hc⟩
 | interval m g hp=>
  obtain⟨o,q,_⟩:=C2 hp;have j:KF=1->cF DF=0:=λh=>by
   rcases o with⟨_,hc,_⟩ | ⟨d,_⟩
   ·exact hc
   ·omega
  have i:KT=1->cF DT=0:=λh=>by
   rcases q with⟨_,hc,_⟩ | ⟨d,_⟩
   ·exact hc
   ·omega
  unfold datE at hx;rw[ab (by omega),ad rfl]at hx;split at hx
  ·rename_i n;split at hx
   ·rename_i f;rcases bX.1 hx with rfl | hx
    ·exact⟨m,j n⟩
    ·rw[lx.1 hx];exact⟨g,i f⟩
   ·rw[lx.1 hx];exact⟨m,j n⟩
  ·split at hx
   ·rename_i f;rw[lx.1 hx];exact⟨g,i f⟩
   ·cases hx
 | set P hs=>
  have d:=P.kind;unfold datE at hx;rw[ab (by omega),ab (by omega),ad d]at hx;obtain⟨t,r,c⟩:=zU.1 hx;have ok:=(MQ P hs t r).1;unfold datI at c;split at c
  ·rename_i p;rcases bX.1 c with rfl | c
   ·exact⟨ok.sm.1,ok.a⟩
   ·rw[lx.1 c];exact⟨ok.sm.2,ok.b p⟩
  ·rw[lx.1 c];exact⟨ok.sm.1,ok.a⟩
def II{k:Int}{D:TD}{KF:Int}{DF:TD}{KT:Int}{DT:TD}{e l:Bool}{I:List TI}(h:RightE k D KF DF KT DT e l I):RightP k D KF DF KT DT e l I:=ED h.sm (by rw[h.first])
def yw:∀I:List TI,(I.flatMap datI).length<=2*I.length
 | []=>by simp
 | t::I=>by
  have:=rH t;have:=yw I;rw[jY,gv,cU];omega
def GK(k:Int)(D:TD)(KF:Int)(DF:TD)(KT:Int)(DT:TD){I:List TI}(h:I.length<=5):(datE k D KF DF KT DT I).length<=10:=by
 have:=yw I;unfold datE;split
 ·simp
 ·split
  ·split
   ·split<;>simp
   ·split<;>simp
  ·split
   ·omega
   ·simp
def sets{k:Int}{D:TD}{KF:Int}{DF:TD}{KT:Int}{DT:TD}{e l:Bool}{I:List TI}(h:RightP k D KF DF KT DT e l I)(a:¬(k=1\/k=2)):D=d0/\KF=0/\DF=d0/\KT=0/\DT=d0/\(k=3\/k=4):=by
 cases h with
 | single hs hc=>omega
 | interval hx hy hp=>omega
 | set P hs=>exact⟨rfl,rfl,rfl,rfl,rfl,P.kind⟩
def K5{x y:TD}{r:Bool}:itE x r y true=0↔itE x r y false=0/\exT x=true:=by
 unfold itE;by_cases b:cF x≠0
 ·rw[ad b,ad b];exact⟨λh=>absurd h b,λh=>absurd h.1 b⟩
 rw[ab b,ab b];by_cases a:r=true/\cF y≠0
 ·rw[ad a,ad a];exact⟨λh=>absurd h a.2,λh=>absurd h.1 a.2⟩
 rw[ab a,ab a];by_cases c:r=false/\eqD y d0=false
 ·rw[ad c,ad c];simp
 rw[ab c,ab c];by_cases d:r=true/\ordB x y=false
 ·rw[ad d,ad d];simp
 rw[ab d,ab d];cases exT x<;>simp
def wj{e l:Bool}{n i:Nat}{t:TI}:errI 4 e l n i t=0↔errI 3 e l n i t=0/\exT (iF t)=true:=by
 have h:itI t true=0↔itI t false=0/\exT (iF t)=true:=K5;unfold errI;rw[show((4:Int)==4)=true from rfl,show((3:Int)==4)=false from rfl];generalize((e&&decide (i=0))&&!endB t||((l&&decide (i+1=n))&&!endB t||(e&&(l&&decide (n=1)))))=q;by_cases a:itI t true=0
 ·have d:=h.1 a;rw[ab (show¬itI t true≠0 fromλc=>c a),ab (show¬itI t false≠0 fromλc=>c d.1)];exact⟨λc=>⟨c,d.2⟩,λc=>c.1⟩
 ·rw[ad (show itI t true≠0 from a)];refine⟨λc=>absurd c a,λc=>?_⟩;by_cases b:itI t false=0
  ·exact absurd (h.2 ⟨b,c.2⟩) a
  ·rw[ad (show itI t false≠0 from b)]at c;exact absurd c.1 b
def CN{A:Type}{f:Nat->A->Int}:∀{L:List A} {k:Nat},kX f k L=none->∀i t,L[i]?=some t->f (k+i) t=0
 | u::L,k,h,i,t,a=>by
  rw[kX]at h;split at h
  ·cases h
  ·rename_i b;cases i with
   | zero=>
    simp only[iE,aq]at a;subst a;exact CH.1 b
   | succ i=>
    have:=CN h i t (by simpa using a);rw[show k+(i+1)=k+1+i by omega];exact this
 | [],k,h,i,t,a=>by simp at a
def nI{K:Int}(c:K=3\/K=4){e l:Bool}{I:List TI}(g:1<=I.length)(f:I.length<=256):
  (ga K d0 0 d0 0 d0 e l I).2=0↔∀i t,I[i]?=some t->errI K e l I.length i t=0:=by
 have d:unuB K d0 0 d0 0 d0 e l I.length=false:=by
  have b:eqD d0 d0=true:=eZ.2 rfl;unfold unuB;rw[b];rcases c with rfl | rfl<;>rfl
 unfold ga;rw[ab (by omega),ab (by rw[d];simp),ab (by omega),ab (by omega),ab (by omega),ab (by omega)];unfold tL;cases hs:kX (errI K e l I.length) 0 I with
 | some p=>
  refine⟨λh=>absurd h (ww hs),λh=>?_⟩;rw[qh (λi t a=>by rw[bV];exact h i t a)]at hs;cases hs
 | none=>exact⟨λ_ i t a=>by have:=CN hs i t a;rwa[bV]at this,λ_=>rfl⟩
def DD{t:TI}(h:itI t false=0):(datI t).all exT=exT (iF t):=by
 unfold datI;by_cases d:rT t=true
 ·rw[ad d];have e:=tP h;have h:itE (iF t) (rT t) (iT t) false=0:=h;rw[d,Hy e.1 (e.2.1 d)]at h;cases c:ordB (iF t) (iT t)
  ·rw[c,ad rfl]at h;exact absurd h (by omega)
  ·unfold ordB at c;simp only[aC]at c;have a:=(gR.1 c.1.1).2.1;have b:=(gR.1 c.1.2).2.1;simp[a,b]
 ·rw[ab d];simp
def yd:∀{I:List TI},(∀t∈I,itI t false=0)->((I.flatMap datI).all exT=true↔∀t∈I,exT (iF t)=true)
 | [],_=>by simp
 | t::I,h=>by
  have ih:=yd (I:=I) (λu a=>h u (gN _ a));rw[jY,List.all_append,aC,DD (h t xc),ih];simp
def ML{e l:Bool}{I:List TI}(h:(ga 3 d0 0 d0 0 d0 e l I).2=0):((ga 4 d0 0 d0 0 d0 e l I).2=0)↔(I.flatMap datI).all exT=true:=by
 have P:=sL (.inl rfl) h;have b:=(nI (.inl rfl) P.one P.most).1 h;rw[nI (.inr rfl) P.one P.most,yd (λt a=>P.its t a)];constructor
 ·intro d t a;obtain⟨i,hi,c⟩:=List.getElem_of_mem a;exact(wj.1 (d i t (by rw[bj hi,c]))).2
 ·intro hx i t a;exact wj.2 ⟨b i t a,hx t (dY a)⟩
def NW{e l:Bool}{I:List TI}(h:(ga 4 d0 0 d0 0 d0 e l I).2=0):(ga 3 d0 0 d0 0 d0 e l I).2=0:=by
 have P:=sL (.inr rfl) h;have b:=(nI (.inr rfl) P.one P.most).1 h;exact(nI (.inl rfl) P.one P.most).2 λi t a=>(wj.1 (b i t a)).1
def zR(c:Nat){I J:List TI}(hn:I.length<=1000000):bN 20000000 I.length c I J=some (decide (I=J)):=by
 unfold bN;rw[show((((List.length I):Nat):Int) != (((List.length J):Nat):Int))=!decide (I.length=J.length)from fc _ (natB _ _)];by_cases h:I.length=J.length
 ·rw[au h];have:=nR (step:=aK 20000000) (st:=λi=>(I.length,c,((I.length:Nat):Int),(i:Int),I,J)) (L:=I) (f:=difI J) (yes:=λ_ _=>.inl false) (no:=.inr ()) ?_ ?_ I.length 0 (by omega) 20000000 (by omega)
  ·rw[gk]at this;have this:aw (aK 20000000) 20000000 (I.length,c,((I.length:Nat):Int),((0:Nat):Int),I,J)=some (if I=J then .inr ()else .inl false):=this.trans (fc some (Av I J h (.inl false:Bool⊕Unit) (.inr ())));show cond false _ (ob (aw (aK 20000000) 20000000 (I.length,c,((I.length:Nat):Int),((0:Nat):Int),I,J)) _)=_;rw[this];by_cases he:I=J
   ·rw[ad he,au he];rfl
   ·rw[ab he,ar he];rfl
  ·intro i t ht;have hi:i<I.length:=(lu.1 ht).1;have hj:J[i]?=some (J[i]'(by omega)):=bj (by omega);generalize J[i]'(by omega)=u at hj;unfold aK;simp only[];rw[au (show(i:Int)<((I.length:Nat):Int)by omega),cK hi,cK (show i<J.length by omega)];simp only[am,ob,ht,hj];have hq:∀b,b=decide (t=u)->cond (!b) (some (.inr (.inl false))) (some (.inl (I.length,c,((I.length:Nat):Int),(wrap .i64 ((i:Int)+1)),I,J)))=(some (if difI J i t≠0 then .inr (.inl false)else .inl (I.length,c,((I.length:Nat):Int),(((i+1:Nat):Int)),I,J)):Option ((Nat×Nat×Int×Int×List TI×List TI)⊕(Bool⊕Unit))):=by
    intro b hb;subst hb;rw[show wrap .i64 ((i:Int)+1)=((i+1:Nat):Int)from ly (by omega)];unfold difI;rw[hj];by_cases he:t=u
    ·rw[au he,ab (by simp[he])];rfl
    ·rw[ar he,ad (by simp only[aq];rw[ab (λh=>he h.symm)];simp)];rfl
   refine hq _ ?_;rw[<-zA]
  ·unfold aK;simp only[];rw[ar (show¬((I.length:Nat):Int)<((I.length:Nat):Int)by omega)];rfl
 ·rw[ar h,ar (λhe=>h (fc _ he))];rfl
def sj(k:Int)(D:TD)(KF:Int)(DF:TD)(KT:Int)(DT:TD)(c:Nat)(e l:Bool){I:List TI}(b:I.length<=1000000):
  ku 20000000 k D KF DF KT DT I.length c e l k D KF DF KT DT e l I I=some true:=by
 have a:∀x:TD,eqD x x=true:=λx=>eZ.2 rfl;unfold ku;rw[zR c b,au rfl];simp only[a,o9,am,AS,ob]
def KD{k:Int}{D:TD}{KF:Int}{DF:TD}{KT:Int}{DT:TD}{e l:Bool}{I:List TI}(a:I.length<=1000000):
  nT 20000000 k D KF DF KT DT e l I=some (k,D,KF,DF,KT,DT,I.length,I.length,e,l,I):=by
 unfold nT dp;rw[show Nat.ble (List.length I) bE=true from dl (by unfold bE;omega)];simp only[am,ob];rw[OK]
def OV{X:List TD}(p:okDs X)(s:X.length<=1000000)(c:Nat)(P:List TR)(h f g d k:Int)(D:TD)(KF:Int)(DF:TD)(KT:Int)(DT:TD)(e l:Bool)(I:List TI):∀(r i:Nat) (b:Bool),i+r=X.length->∀N,r<N->
  aw (bu 20000000) N (X.length,c,b,(i:Int),P,h,f,g,d,k,D,KF,DF,KT,DT,e,l,X,X,I)=some (.inr (b&&(X.drop i).all exT,P,h,f,g,d,k,D,KF,DF,KT,DT,e,l,I)):=by
 intro r
 induction r with
 | zero=>
  intro i b hi N q;obtain⟨N,rfl⟩:∃k,N=k+1:=⟨N - 1,by omega⟩;obtain rfl:i=X.length:=by omega
  have:bu 20000000 (X.length,c,b,((X.length:Nat):Int),P,h,f,g,d,k,D,KF,DF,KT,DT,e,l,X,X,I)=some (.inr (.inr (b,P,h,f,g,d,k,D,KF,DF,KT,DT,e,l,I))):=by
   unfold bu;simp only[u20,u19,u18,u17,u16,u15,u14,u13,u12,u11,u10,u9,u8,u7,u6,u5,u4,u3,u2];rw[ar (show¬((X.length:Nat):Int)<((X.length:Nat):Int)by omega)];rfl
  rw[aw,this,yP];simp
 | succ r ih=>
  intro i b hi N q;obtain⟨N,rfl⟩:∃k,N=k+1:=⟨N - 1,by omega⟩;have a:i<X.length:=by omega
  have m:X[i]?=some X[i]:=bj a;obtain⟨j,n⟩:=p _ (List.getElem_mem a);have o:X.drop i=X[i]::X.drop (i+1):=pF a;generalize X[i]=x at m j n o;have:bu 20000000 (X.length,c,b,(i:Int),P,h,f,g,d,k,D,KF,DF,KT,DT,e,l,X,X,I)=some (.inl (X.length,c,b&&exT x,((i+1:Nat):Int),P,h,f,g,d,k,D,KF,DF,KT,DT,e,l,X,X,I)):=by
   unfold bu;simp only[u20,u19,u18,u17,u16,u15,u14,u13,u12,u11,u10,u9,u8,u7,u6,u5,u4,u3,u2];rw[au (show(i:Int)<((X.length:Nat):Int)by omega),cK a];simp only[am,ob,m,eZ.2 rfl,dD,af,fcT j,n,eG,reT j];rw[ly (by omega)];cases b
   ·rfl
   ·cases exT x<;>rfl
  rw[aw,this];simp only[];rw[ih (i+1) _ (by omega) N (by omega),o,lw,Bool.and_assoc]
def Ox{m:Nat}(p:m<=1000000)(b:Bool)(P:List TR)(g d f a k:Int)(D:TD)(KF:Int)(DF:TD)(KT:Int)(DT:TD)(e l:Bool)(c:Nat)(I:List TI):∀(r i:Nat) (C:List TI),i+r=m->C.length=m->∀N,r<N->
  aw (bs 20000000) N (b,(i:Int),P,g,d,f,a,k,D,KF,DF,KT,DT,e,l,k,D,KF,DF,KT,DT,m,c,e,l,I,C)=some (b,P,g,d,f,a,k,D,KF,DF,KT,DT,e,l,I):=by
 intro r
 induction r with
 | zero=>
  intro i C hi j N o;obtain⟨N,rfl⟩:∃k,N=k+1:=⟨N - 1,by omega⟩;obtain rfl:i=m:=by omega
  have:bs 20000000 (b,(i:Int),P,g,d,f,a,k,D,KF,DF,KT,DT,e,l,k,D,KF,DF,KT,DT,i,c,e,l,I,C)=some (.inr (b,P,g,d,f,a,k,D,KF,DF,KT,DT,e,l,I)):=by
   unfold bs;simp only[u27,u26,u25,u24,u23,u22,u21,u20,u19,u18,u17,u16,u15,u14,u13,u12,u11,u10,u9,u8,u7,u6,u5,u4,u3,u2];rw[ar (show¬(i:Int)<(i:Int)by omega)];rfl
  rw[aw,this]
 | succ r ih=>
  intro i C hi j N o;obtain⟨N,rfl⟩:∃k,N=k+1:=⟨N - 1,by omega⟩;have h:i<C.length:=by omega
  have n:C[i]?=some C[i]:=bj h;generalize C[i]=x at n;obtain⟨y,this⟩:∃y,bs 20000000 (b,(i:Int),P,g,d,f,a,k,D,KF,DF,KT,DT,e,l,k,D,KF,DF,KT,DT,m,c,e,l,I,C)=some (.inl (b,((i+1:Nat):Int),P,g,d,f,a,k,D,KF,DF,KT,DT,e,l,k,D,KF,DF,KT,DT,m,c,e,l,I,C.set i y)):=by
   unfold bs;simp only[u27,u26,u25,u24,u23,u22,u21,u20,u19,u18,u17,u16,u15,u14,u13,u12,u11,u10,u9,u8,u7,u6,u5,u4,u3,u2];rw[au (show(i:Int)<((m:Nat):Int)by omega),cK (show i<m by omega)];simp only[am,ob,n];rw[ly (by omega)];exact⟨_,rfl⟩
  rw[aw,this];simp only[];exact ih (i+1) _ (by omega) (by rw[vV];exact j) N (by omega)
def vF{K h g B:Int}(J:natI K 256)(F:natI h 256)(M:natI g 256)(x:natI B 256){L:List TR}(N:∀r∈L,wfR r):
  gj 20000000 K h g B L=some true:=by
 obtain⟨k,D,KF,DF,KT,DT,e,l,I,q,a⟩:=E_of J F M x N;have P:=II a;have H:=a.len;have d:I.length<=1000000:=by omega
 have v:=Ii d k D KF DF KT DT e l;have o:=zI d k D KF DF KT DT e l;have i:=LA P;have A:=Iy k D KF DF KT DT d;have t:=GK k D KF DF KT DT H;have p:=Ce (K:=k) (KF:=KF) (KT:=KT) (e:=e) (l:=l) a.sm;have hc:=wV (K:=k) (KF:=KF) (KT:=KT) (e:=e) (l:=l) a.sm;have f:=zQ (K:=k) (KF:=KF) (KT:=KT) (e:=e) (l:=l) a.sm;rw[a.first]at p hc f;have u:=λc=>OV i (by omega) c L K h g B k D KF DF KT DT e l I (datE k D KF DF KT DT I).length 0 true (by omega) 20000000 (by omega);rw[gk]at u;have G:=λb=>Ox (m:=I.length) d b L K h g B k D KF DF KT DT e l I.length I I.length 0 I (by omega) rfl 20000000 (by omega);have y:=sj k D KF DF KT DT I.length e l d;have E:=xE k D KF DF KT DT I.length e l d;have O:=yA k D KF DF KT DT e l d;have cp:=KD (k:=k) (D:=D) (KF:=KF) (DF:=DF) (KT:=KT) (DT:=DT) (e:=e) (l:=l) d;have w:k=3->∃z,eH 20000000 4 D KF DF KT DT e l I=some z/\(z==0)=(datE k D KF DF KT DT I).all exT:=by
  intro n;subst n;obtain⟨rfl,rfl,rfl,rfl,rfl,_⟩:=sets P (by omega);refine⟨_,wV a.sm,?_⟩;have:=ML (show(ga 3 d0 0 d0 0 d0 e l I).2=0 by rw[a.first]);have j:datE 3 d0 0 d0 0 d0 I=I.flatMap datI:=by unfold datE;rw[ab (by omega),ab (by omega),ad (.inl rfl)]
  rw[j];generalize(ga 4 d0 0 d0 0 d0 e l I).2=z at this;rw[uB,bI];exact this
 have C:k=4->eH 20000000 3 D KF DF KT DT e l I=some 0:=by
  intro n;subst n;obtain⟨rfl,rfl,rfl,rfl,rfl,_⟩:=sets P (by omega);rw[wV a.sm,NW (show(ga 4 d0 0 d0 0 d0 e l I).2=0 by rw[a.first])]
 unfold gj;rw[q];simp only[ob,u9,u8,u7,u6,u5,u4,u3,u2,p,hc,f,v,o,eG,af];rw[show(0:Int)=((0:Nat):Int)from rfl];generalize datE k D KF DF KT DT I=X at *;simp only[u,obs,sm,u15,u14,u13,u12,u11,u10,u9,u8,u7,u6,u5,u4,u3,u2,cp,y,E,dD,af,ob,eG,G,q,O,Iu];by_cases k3:k=3
 ·obtain⟨z,z1,z2⟩:=w k3;subst k3;simp[z1,z2]
 ·by_cases s:k=4
  ·subst s;simp[C rfl]
  ·rw[show(k==3)=false from aN.2 k3,show(k==4)=false from aN.2 s];rfl
def lL{n:Int}(h:(Lit.int .u8 n).wf=true):natI n 256:=⟨(Go.bounds_u8 h).1,by have:=(Go.bounds_u8 h).2;omega⟩
def I1{n:Int}(h:(Lit.int .u16 n).wf=true):natI n 65536:=⟨(Go.bounds_u16 h).1,by have:=(Go.bounds_u16 h).2;omega⟩
def N9{y:den [.i .u8,.bo,.i .u16,.i .u8,.i .u8,.i .u8,.i .u8,.i .u8,.i .u8,.i .u8,.i .u8,.i .u8,.bo,.i .u16,.i .u8,.i .u8,.i .u8,.i .u8,.i .u8,.i .u8,.i .u8]}
  (h:ov [.i .u8,.bo,.i .u16,.i .u8,.i .u8,.i .u8,.i .u8,.i .u8,.i .u8,.i .u8,.i .u8,.i .u8,.bo,.i .u16,.i .u8,.i .u8,.i .u8,.i .u8,.i .u8,.i .u8,.i .u8] y):wfR y:=by
 obtain⟨l,_,e,a,c,b,q,o,j,n,_,k0,_,k2,k3,d,f,k,m,g,p⟩:=h;exact⟨⟨lL l,I1 e,lL a,lL c,lL b,lL q,lL o,lL j,lL n⟩,⟨lL k0,I1 k2,lL k3,lL d,lL f,lL k,lL m,lL g,lL p⟩⟩
end Go.Sh
