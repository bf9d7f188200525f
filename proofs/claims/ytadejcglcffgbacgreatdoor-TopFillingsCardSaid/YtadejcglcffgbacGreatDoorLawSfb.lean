
import Derived.Test.YtadejcglcffgbacGreatDoorLawSfa
set_option linter.unusedVariables false
set_option linter.unusedSimpArgs false
set_option maxRecDepth 100000
open Go.IntKind(wrap)
set_option linter.defProp false
namespace Go.Sh
open Go.Abs
def lY(up:Bool)(Y:Int->Prop)(F:Int->Option (Int×Int×Int))(v:Int):Option (Int×Int×Int)->Prop
 | some z=>∃e,Y e/\Mk.cu up v e/\F e=some z/\∀a,Y a->Mk.cu up v a->¬Mk.cu up e a->F a=none
 | none=>∀e,Y e->Mk.cu up v e->F e=none
def uA{X:Type}{step:X->Option (X⊕((Bool×Int×Int×Int)⊕(Int×Int×Int)))}{st:Int->Bool->X}{F:Int->Option (Int×Int×Int)}{Y:Int->Prop}{up:Bool}{s lo hi:Int}{E:Int×Int×Int}{fy:Int->Option (Int×Bool)}
  (c:s=if up then 1 else -1) (D:∀e,Y e->lo<=e/\e<=hi) (h0:-10000000000000000<=lo) (h1:hi<=10000000000000000)
  (b:∀y,Y y->step (st y true)=(F y).elim (ob (fy (wrap .i64 (y+s))) λr=>some (.inl (st r.1 r.2))) (λz=>some (.inr (.inl (true,z)))))
  (d:∀y,step (st y false)=some (.inr (.inr E)))
  (t:∀v,-9223372036854775808<=v/\v<9223372036854775808->∃w f,fy v=some (w,f)/\ur up Y v w f):
  ∀(r:Nat) (v y:Int) (f:Bool),ur up Y v y f->(f=true->(if up then hi - y else y - lo)<(r:Int))->∀N,r<N->
   ∃o,au step N (st y f)=some (o.elim (.inr E) (λz=>.inl (true,z)))/\lY up Y F v o:=by
 intro r
 induction r with
 | zero=>
  intro v y f l n N M;obtain⟨N,rfl⟩:∃q,N=q+1:=⟨N - 1,by omega⟩;cases f with
  | true=>
   obtain⟨g,_,_⟩:=l.1 rfl;have:=D y g;have:=n rfl;cases up<;>simp at this<;>omega
  | false=>
   refine⟨none,by rw[au,d];rfl,λe i m=>absurd m (l.2 rfl e i)⟩
 | succ r ih=>
  intro v y f l n N M;obtain⟨N,rfl⟩:∃q,N=q+1:=⟨N - 1,by omega⟩;cases f with
  | false=>
   refine⟨none,by rw[au,d];rfl,λe i m=>absurd m (l.2 rfl e i)⟩
  | true=>
   obtain⟨g,p,G⟩:=l.1 rfl;have O:=D y g;cases k:F y with
   | some z=>
    refine⟨some z,?_,y,g,p,k,λa h1 h2 j=>absurd (G a h1 h2) j⟩;rw[au,b y g,k];rfl
   | none=>
    have J:wrap .i64 (y+s)=y+s:=by
     have:-1<=s/\s<=1:=by rw[c];cases up<;>simp
     exact wrap_i64 _ (by omega) (by omega)
    obtain⟨w,B,I,u⟩:=t (y+s) (by
     have:-1<=s/\s<=1:=by rw[c];cases up<;>simp
     omega)
    have hstep':step (st y true)=some (.inl (st w B)):=by
     rw[b y g,k,J];show ob (fy (y+s)) _=_;rw[I];rfl
    obtain⟨o,K,C⟩:=ih (y+s) w B u (λL=>by
     obtain⟨P,A,_⟩:=u.1 L;have:=n rfl;cases up
     ·rw[cQ]at A;simp only[cb,aD]at c this ⊢;omega
     ·rw[aW]at A;simp only[be]at c this ⊢;omega) N (by omega)
    refine⟨o,by rw[au,hstep'];exact K,?_⟩;have split:∀a,Y a->Mk.cu up v a->a=y\/Mk.cu up (y+s) a:=λa h1 h2=>by
     have j:=G a h1 h2;cases up
     ·rw[cQ]at j ⊢;simp only[cb,aD]at c;omega
     ·rw[aW]at j ⊢;simp only[be]at c;omega
    cases o with
    | none=>
     intro e i m;rcases split e i m with rfl | h
     ·exact k
     ·exact C e i h
    | some z=>
     obtain⟨e,H,x,c3,c4⟩:=C;refine⟨e,H,?_,c3,λa h1 h2 j=>?_⟩
     ·cases up
      ·rw[cQ]at x p ⊢;simp only[cb,aD]at c;omega
      ·rw[aW]at x p ⊢;simp only[be]at c;omega
     ·rcases split a h1 h2 with rfl | h
      ·exact k
      ·exact c4 a h1 h j
def ny{g l:Bool}{dg:aa}{x:Int}(c:okY g l dg x 0):∃lo hi:Int,(∀e,inP g dg x 0 e->lo<=e/\e<=hi)/\hi - lo<=10000/\-10000000000000000<=lo/\hi<=10000000000000000:=by
 cases f:hasX dg with
 | false=>
  have a:=EL c f;by_cases d:-10000000000000000<=(if g then -((val dg x.toNat:Nat):Int)else((val dg x.toNat:Nat):Int))/\(if g then -((val dg x.toNat:Nat):Int)else((val dg x.toNat:Nat):Int))<=10000000000000000
  ·refine⟨_,_,λe b=>?_,?_,d.1,d.2⟩
   ·rw[(a e).1 b];exact⟨kg _,kg _⟩
   ·omega
  ·refine⟨0,0,λe b=>?_,by omega,by omega,by omega⟩;exfalso;have:=(a e).1 b;unfold inP at b;exact d ⟨by rw[<-this];exact b.1,by rw[<-this];exact b.2.1⟩
 | true=>
  have a:=rC c f;obtain⟨_,_,_,i,k⟩:=mm c f;refine⟨if g then -9999 else 0,if g then 0 else 9999,λe b=>?_,by cases g<;>simp,by cases g<;>simp,by cases g<;>simp⟩;have h:=((a e).1 b).1;have:=(Mk.kq h).2.2.2.2;rw[i]at this;have j:(10:Int) ^ 4=10000:=by decide
  unfold wOf at this;cases g
  ·simp at this ⊢;omega
  ·simp at this ⊢;omega
def mH{g:Bool}{dg:aa}{x q e:Int}(h:inP g dg x q e):bU e:=⟨h.1,h.2.1⟩
def qd{g l:Bool}{dg:aa}{x:Int}(e:okY g l dg x 0)(m d:aa)(k0 k1 k2:Int)(a h i:Int)(k:-9223372036854775808<=a/\a<9223372036854775808)(c b:List Int)(hm:ra d c)(B:b.length<=31):
  ∃o,br 20000000 g l dg x 0 m d k0 k1 k2 a h i true c b=some (o.elim (0,0,0,false) λz=>(z.1,z.2.1,z.2.2,true))/\lY true (inP g dg x 0) (jp true m d a h i c b) a o:=by
 obtain⟨lo,hi,q,G,j,n⟩:=ny e;obtain⟨w,f,u,p⟩:=qt e m d k0 k1 k2 a k true c b;obtain⟨o,C,t⟩:=uA (step:=bJ 20000000) (st:=λy f=>(1,y,f,c,b,g,l,dg,x,0,m,d,k0,k1,k2,a,h,i,true,0,0,0)) (F:=jp true m d a h i c b) (Y:=inP g dg x 0) (up:=true) (s:=1) (lo:=lo) (hi:=hi) (E:=(0,0,0)) (fy:=λv=>aC 20000000 g l dg x 0 m d k0 k1 k2 v true c b)
  rfl q j n
  (λy A=>G4 20000000 (by omega) 1 y (mH A) c b g l dg x 0 m d k0 k1 k2 a h i true 0 0 0 hm B)
  (λy=>rfl)
  (λv r=>qt e m d k0 k1 k2 v r true c b)
  10002 a w f p (λD=>by have:=q w (p.1 D).1;simp;omega) 20000000 (by omega)
 refine⟨o,?_,t⟩;unfold br dP;simp only[da,ae,ob,d4,d8,d16,u];have i1':au (bJ 20000000) 20000000 (1,w,f,c,b,g,l,dg,x,0,m,d,k0,k1,k2,a,h,i,true,0,0,0)=_:=C;rw[i1'];cases o<;>rfl
def Ap(m d:aa)(l j:Int){f e:Int}(h:e≠f)(n c:List Int):jp true m d f l j n c e=none↔(n.flatMap λa=>(c.filter λk=>decide (k<=jk d e a)).map λk=>(e,a,k))=[]:=by
 have i:(e==f)=false:=bA.2 h;unfold jp;rw[D8,List.flatMap_eq_nil_iff];have:∀a,mi true m d f l j e c a=none↔((c.filter λk=>decide (k<=jk d e a)).map λk=>(e,a,k))=[]:=by
  intro a;unfold mi mq nD;rw[i];simp only[qR,cb,aD,yB,uH,List.map_eq_nil_iff,List.filter_eq_nil_iff];constructor
  ·intro h1 k g;have:=h1 k g;unfold kw at this;simpa using this
  ·intro h1 k g;have:=h1 k g;unfold kw;simpa using this
 exact⟨λh1 a b=>(this a).1 (h1 a b),λh1 a b=>(this a).2 (h1 a b)⟩
def hasF(g:Bool)(dg:aa)(x:Int)(m d:aa):Prop:=∃e,inP g dg x 0 e/\gv m d e≠[]
open Classical in
noncomputable def chkF(g l:Bool)(dg:aa)(x q:Int)(m d:aa)(k0 k1 k2:Int):Int:=
 if chkD g l dg x q m d k0 k1 k2=0/\d≠[]/\¬hasF g dg x m d then 8 else chkD g l dg x q m d k0 k1 k2
def tg{g l:Bool}{dg:aa}{x q:Int}{m d:aa}{k0 k1 k2:Int}(h:chkD g l dg x q m d k0 k1 k2=0):okY g l dg x q/\(m=[]\/m.length=2)/\(d=[]\/d.length=2)/\(0<q->m=[])/\(d≠[]->m≠[]/\sea m=0):=by
 obtain⟨a,c,c3,c4⟩:=E1 h;unfold yrD at a;by_cases b:okY g l dg x q
 ·rw[ad b]at a;refine⟨b,?_,?_,λf=>?_,λe=>?_⟩
  ·rcases c with h | h | h
   ·exact .inl h
   ·exact .inr (FB h).1
   ·exact .inr (m8 (by omega) h).1
  ·rcases c3 with h | ⟨_,_,h⟩
   ·exact .inl h
   ·exact .inr (m8 (by omega) h).1
  ·unfold yrB at a;simp only[aw,ld]at a;have:=a.1;rw[ay f,kB]at this;by_cases hm:m=[]
   ·exact hm
   ·rw[cj hm]at this;cases this
  ·rcases c3 with h | ⟨h1,h2,_⟩
   ·exact absurd h e
   ·exact⟨h1,h2⟩
 ·rw[ab b]at a;cases a
def J1{g l:Bool}{dg:aa}{x q:Int}(h:okY g l dg x q):0<=q:=(rM h).2.2.1
def xU{m d:aa}(h:d≠[]->m≠[]/\sea m=0):ra d (monI m):=by
 refine⟨lT (Aa m) (by omega),λc e a=>?_⟩;obtain⟨h1,h2⟩:=h c;unfold monI at a;rw[ab h1,ab (by omega)]at a;obtain⟨k,b,rfl⟩:=ch.1 a;have:=oq.1 (iU.1 b).1;omega
def Hr{g l:Bool}{dg:aa}{x q:Int}{m d:aa}{k0 k1 k2:Int}(hml:m.length<=18)(hdl:dg.length<=100)(h0:0<=k0)(h1:0<=k1)(h2:0<=k2):
  bf 20000000 g l dg x q m d k0 k1 k2=some (chkF g l dg x q m d k0 k1 k2):=by
 unfold bf chkF;rw[Hf 20000000 (by omega) g l dg x q m d k0 k1 k2 hml hdl h0 h1 h2];simp only[ob];by_cases hc:chkD g l dg x q m d k0 k1 k2=0
 ·obtain⟨f,k,n,u,c⟩:=tg hc;rw[hc];simp only[ek,ae];by_cases j:d=[]
  ·subst j;rw[ab (by simp)];rfl
  ·rw[cj j,ae];have r:q=0:=by
    have:=J1 f;by_cases h:0<q
    ·exact absurd (u h) (c j).1
    ·omega
   subst r;have e:=Gz 20000000 (by omega) g l dg x 0 m d k0 k1 k2 k n;have p:=xU c;obtain⟨o,o1,s⟩:=qd f m d k0 k1 k2 (-9223372036854775808) 0 0 (by omega) (monI m) (dayI d) p (ng d);have b:∀e,inP g dg x 0 e->e≠-9223372036854775808:=λe v=>by have:=mH v;unfold bU at this;omega
   have key:(∃z,o=some z)↔hasF g dg x m d:=by
    constructor
    ·rintro⟨z,rfl⟩;obtain⟨e,a,_,c3,_⟩:=s;refine⟨e,a,λw=>?_⟩;have:=(Ap m d 0 0 (b e a) (monI m) (dayI d)).2 w;rw[this]at c3;cases c3
    ·rintro⟨e,a,t⟩;cases o with
     | some z=>exact⟨z,rfl⟩
     | none=>
      have:=s e a (by rw[aW];have:=mH a;unfold bU at this;omega);exact absurd ((Ap m d 0 0 (b e a) (monI m) (dayI d)).1 this) t
   rw[e];by_cases i:hasF g dg x m d
   ·obtain⟨z,rfl⟩:=key.2 i;rw[ab (λh=>h.2.2 i)]
    all_goals
     simp only[d4,d8,o1];rfl
   ·have y:o=none:=by
     cases o with
     | none=>rfl
     | some z=>exact absurd (key.1 ⟨z,rfl⟩) i
    subst y;rw[ad ⟨rfl,j,i⟩]
    all_goals
     simp only[d4,d8,o1];rfl
 ·rw[ab (λh=>hc h.1)];have:(chkD g l dg x q m d k0 k1 k2 != 0)=true:=by simp[hc]
  rw[this];rfl
def Ig(n:Nat):∀(k:Nat) (a c b:List Int),c.length<=k->a.length=b.length->(a++c++b).length<=1000->∀N,k<N->
  au (aE n) N ((a.length:Int),((a.length+c.length:Nat):Int) - 1,a++c++b)=some (a++c.reverse++b):=by
 intro k
 induction k with
 | zero=>
  intro a c b hm f g N p;obtain⟨N,rfl⟩:∃q,N=q+1:=⟨N - 1,by omega⟩;obtain rfl:c=[]:=ta (by omega);have:aE n ((a.length:Int),((a.length+([]:List Int).length:Nat):Int) - 1,a++[]++b)=some (.inr (a++[]++b)):=by
   unfold aE;simp only[];rw[ax (by simp;omega)];rfl
  rw[au,this];rfl
 | succ k ih=>
  intro a c b hm f g N p;obtain⟨N,rfl⟩:∃q,N=q+1:=⟨N - 1,by omega⟩;by_cases h2:c.length<2
  ·have:aE n ((a.length:Int),((a.length+c.length:Nat):Int) - 1,a++c++b)=some (.inr (a++c++b)):=by
    unfold aE;simp only[];rw[ax (by omega)];rfl
   have i:c.reverse=c:=by
    match c,h2 with
    | [],_=>rfl
    | [_],_=>rfl
    | _::_::_,h=>simp at h;omega
   rw[au,this,i]
  ·obtain⟨x,M,z,rfl⟩:∃x M z,c=x::(M++[z]):=by
    match c,h2 with
    | [],h=>exact absurd (by simp) h
    | [_],h=>exact absurd (by simp) h
    | x::y::t,_=>
     refine⟨x,(y::t).dropLast,(y::t).getLast (by simp),?_⟩;rw[List.dropLast_concat_getLast]
   simp only[cR,bp,cP]at g hm;have m:((a.length+(x::(M++[z])).length:Nat):Int) - 1=((a.length+(M.length+1):Nat):Int):=by
    simp only[cR,bp,cP];omega
   have e:(a++x::(M++[z])++b).length=a.length+(M.length+2)+b.length:=by
    simp only[cR,bp,cP]
   have j:(a++x::(M++[z])++b)[a.length+(M.length+1)]?=some z:=by
    rw[o7,kf (by omega),pK];simp
   have o:(a++x::(M++[z])++b)[a.length]?=some x:=by
    rw[o7,kf (by omega),wt];rfl
   have r:(a++x::(M++[z])++b).set a.length z=a++z::(M++[z])++b:=by
    rw[o7,List.set_append_right _ _ (aI _),wt,o7];rfl
   have s:(a++z::(M++[z])++b)[a.length+(M.length+1)]?=some z:=by
    rw[o7,kf (by omega),pK];simp
   have u:(a++z::(M++[z])++b).set (a.length+(M.length+1)) x=(a++[z])++M++([x]++b):=by
    rw[o7,List.set_append_right _ _ (by omega),pK];simp
   have d:(a++z::(M++[z])++b).length=a.length+(M.length+2)+b.length:=by
    simp only[cR,bp,cP]
   have v:wrap .i64 ((a.length:Int)+1)=(((a++[z]).length:Nat):Int):=by
    rw[wrap_i64 _ (by omega) (by omega)];simp
   have l:wrap .i64 (((a.length+(M.length+1):Nat):Int) - 1)=(((a++[z]).length+M.length:Nat):Int) - 1:=by
    rw[wrap_i64 _ (by omega) (by omega)];simp;omega
   have step:aE n ((a.length:Int),((a.length+(x::(M++[z])).length:Nat):Int) - 1,a++x::(M++[z])++b)=some (.inl ((((a++[z]).length:Nat):Int),(((a++[z]).length+M.length:Nat):Int) - 1,(a++[z])++M++([x]++b))):=by
    rw[m];unfold aE;simp only[];rw[ay (by omega),e,ef (show a.length+(M.length+1)<_ by omega),ef (show a.length<_ by omega)];simp only[aj,ob,j,o,r];rw[d,ef (show a.length+(M.length+1)<_ by omega)];simp only[s,u,v,l]
   rw[au,step];show au _ N _=_;rw[ih (a++[z]) M ([x]++b) (by omega) (by simp;omega) (by simp only[cR,bp,cP];omega) N (by omega)];simp
def I0(n:Nat)(l:List Int)(h:l.length<=1000)(a:1000<n):cA n l=some l.reverse:=by
 unfold cA;have:=Ig n l.length [] l [] (aI _) rfl (by simpa using h) n (by omega);simp only[gh,uR,cP,ci]at this;rw[wrap_i64 _ (by omega) (by omega)];have h0:au (aE n) n (0,((l.length:Nat):Int) - 1,l)=some l.reverse:=this;rw[h0];rfl
def AU(n:Nat)(l:List Int)(h0:l≠[])(h:l.length<=1000):cX n l=some l:=by
 unfold cX;have a:=List.length_pos_iff.2 h0;have b:Nat.blt 0 l.length=true:=by
  rw[Nat.blt_eq];exact a
 have c:Nat.ble (0+l.length) eO=true:=dA (by unfold eO;omega);rw[b,c];rfl
def BU{g l:Bool}{dg:aa}{x:Int}(e:okY g l dg x 0)(m d:aa)(k0 k1 k2:Int)(c i j:Int)(q:-9223372036854775808<=c/\c<9223372036854775808)(b a:List Int)(hm:ra d b)(I:a.length<=31)(p:b≠[])(t:a≠[]):
  ∃o,br 20000000 g l dg x 0 m d k0 k1 k2 c i j false b a=some (o.elim (0,0,0,false) λz=>(z.1,z.2.1,z.2.2,true))/\lY false (inP g dg x 0) (jp false m d c i j b.reverse a.reverse) c o:=by
 have hml:=hm.1;have hm':ra d b.reverse:=⟨by rw[lB];exact hml,λh C k=>hm.2 h C (rQ.1 k)⟩;have hd':a.reverse.length<=31:=by rw[lB];exact I
 obtain⟨lo,hi,A,L,n,r⟩:=ny e;obtain⟨w,f,G,u⟩:=qt e m d k0 k1 k2 c q false b a;obtain⟨o,J,D⟩:=uA (step:=bW 20000000) (st:=λy f=>(-1,y,f,b,a,g,l,dg,x,0,m,d,k0,k1,k2,c,i,j,false,0,0,0,b.reverse,a.reverse)) (F:=jp false m d c i j b.reverse a.reverse) (Y:=inP g dg x 0) (up:=false) (s:=-1) (lo:=lo) (hi:=hi) (E:=(0,0,0)) (fy:=λv=>aC 20000000 g l dg x 0 m d k0 k1 k2 v false b a)
  rfl A n r
  (λy H=>JZ 20000000 (by omega) (-1) y (mH H) b a g l dg x 0 m d k0 k1 k2 c i j false 0 0 0 b.reverse a.reverse hm' hd')
  (λy=>rfl)
  (λv B=>qt e m d k0 k1 k2 v B false b a)
  10002 c w f u (λK=>by have:=A w (u.1 K).1;simp;omega) 20000000 (by omega)
 refine⟨o,?_,D⟩;unfold br dP;simp only[dU,aj,ob,d4,d8,d16,AU 20000000 b p (by omega),AU 20000000 a t (by omega),I0 20000000 b (by omega) (by omega),I0 20000000 a (by omega) (by omega),G];have i1':au (bW 20000000) 20000000 (-1,w,f,b,a,g,l,dg,x,0,m,d,k0,k1,k2,c,i,j,false,0,0,0,b.reverse,a.reverse)=_:=J;rw[i1'];cases o<;>rfl
noncomputable def errF(g l:Bool)(dg:aa)(x q:Int)(m d:aa)(k0 k1 k2:Int):Int:=
 if chkF g l dg x q m d k0 k1 k2=0 then(if 0<q then 1 else 0)else chkF g l dg x q m d k0 k1 k2
def vr{g l:Bool}{dg:aa}{x q:Int}{m d:aa}{k0 k1 k2:Int}(hml:m.length<=18)(hdl:dg.length<=100)(h0:0<=k0)(h1:0<=k1)(h2:0<=k2):
  fk 20000000 g l dg x q m d k0 k1 k2=some (errF g l dg x q m d k0 k1 k2):=by
 unfold fk errF;rw[Hr hml hdl h0 h1 h2];simp only[ob];by_cases hc:chkF g l dg x q m d k0 k1 k2=0
 ·rw[hc,ad rfl];simp only[ek,ae];by_cases a:0<q
  ·rw[ad a,ay (show q>0 from a)];rfl
  ·rw[ab a,ax (show¬q>0 from a)];rfl
 ·rw[ab hc];have:(chkF g l dg x q m d k0 k1 k2 != 0)=true:=by simp[hc]
  rw[this];rfl
structure RightF(g l:Bool)(dg:aa)(x:Int)(m d:aa):Prop where
 ok:okY g l dg x 0
 m2:m=[]\/m.length=2
 d2:d=[]\/d.length=2
 mos:ra d (monI m)
 mne:monI m≠[]
 dne:dayI d≠[]
 dm:d≠[]->m≠[]
def IF{s:aa}{g:Nat}(h:eF s g=true):qu (fitN s g)≠[]:=by
 unfold eF at h;obtain⟨i,hi,a⟩:=mf.1 h;intro e;have:fitN s g=[]:=List.map_eq_nil_iff.1 e;unfold fitN at this;rw[List.filter_eq_nil_iff]at this;exact this (i+1) (oq.2 (by have:=iN.1 hi;omega)) a
def H3{g l:Bool}{dg:aa}{x q:Int}{m d:aa}{k0 k1 k2:Int}(h:chkD g l dg x q m d k0 k1 k2=0)(j:¬0<q):q=0/\RightF g l dg x m d:=by
 obtain⟨b,f,e,_,a⟩:=tg h;obtain⟨k,i,c3,c4⟩:=E1 h;have c:q=0:=by have:=J1 b;omega
 subst c;refine⟨rfl,b,f,e,xU a,?_,?_,λh=>(a h).1⟩
 ·unfold monI;split
  ·simp
  ·split
   ·simp
   ·rename_i h1 h2;rcases i with h | h | h
    ·exact absurd h h1
    ·exact absurd h h2
    ·exact IF h
 ·unfold dayI;split
  ·simp
  ·rename_i h1;rcases c3 with h | ⟨_,_,h⟩
   ·exact absurd h h1
   ·exact IF h
def Dt{g l:Bool}{dg:aa}{x q:Int}{m d:aa}{k0 k1 k2:Int}(h:chkF g l dg x q m d k0 k1 k2=0):chkD g l dg x q m d k0 k1 k2=0:=by
 unfold chkF at h;split at h
 ·cases h
 ·exact h
def ew{g l:Bool}{dg:aa}{x q:Int}{m d:aa}{k0 k1 k2:Int}(h:errF g l dg x q m d k0 k1 k2=0):q=0/\RightF g l dg x m d:=by
 unfold errF at h;by_cases hc:chkF g l dg x q m d k0 k1 k2=0
 ·rw[ad hc]at h;by_cases a:0<q
  ·rw[ad a]at h;cases h
  ·exact H3 (Dt hc) a
 ·rw[ab hc]at h;exact absurd h hc
def bne0{e:Int}(h:e≠0):(e != 0)=true:=by simp[h]
section
variable {g l:Bool} {dg:List UInt8} {x q:Int} {m d:List UInt8} {k0 k1 k2:Int} (hml:m.length<=18) (hdl:dg.length<=100) (h0:0<=k0) (h1:0<=k1) (h2:0<=k2)
include hml hdl h0 h1 h2
def FG(a f c:Int)(h:-9223372036854775808<=a/\a<9223372036854775808):
  (errF g l dg x q m d k0 k1 k2≠0/\bD 20000000 g l dg x q m d k0 k1 k2 a f c=some (0,0,0,false,errF g l dg x q m d k0 k1 k2))\/
  (errF g l dg x q m d k0 k1 k2=0/\∃o,bD 20000000 g l dg x q m d k0 k1 k2 a f c=some (o.elim (0,0,0,false,0) λz=>(z.1,z.2.1,z.2.2,true,0))/\lY true (inP g dg x 0) (jp true m d a f c (monI m) (dayI d)) a o):=by
 unfold bD;rw[vr hml hdl h0 h1 h2];simp only[ob];by_cases b:errF g l dg x q m d k0 k1 k2=0
 ·refine .inr ⟨b,?_⟩;obtain⟨rfl,R⟩:=ew b;have e:=Gz 20000000 (by omega) g l dg x 0 m d k0 k1 k2 R.m2 R.d2;obtain⟨o,o1,i⟩:=qd R.ok m d k0 k1 k2 a f c h (monI m) (dayI d) R.mos (ng d);refine⟨o,?_,i⟩;rw[b,e]
  all_goals
   simp only[d4,d8,ek,ae,o1];cases o<;>rfl
 ·exact .inl ⟨b,by rw[bne0 b];rfl⟩
def I8(a c b:Int)(h:-9223372036854775808<=a/\a<9223372036854775808)(up:Bool):
  (errF g l dg x q m d k0 k1 k2≠0/\jq 20000000 g l dg x q m d k0 k1 k2 a c b up=some (0,0,0,errF g l dg x q m d k0 k1 k2))\/
  (errF g l dg x q m d k0 k1 k2=0/\∃o,jq 20000000 g l dg x q m d k0 k1 k2 a c b up=some (o.elim (0,0,0,0) λz=>(z.1,z.2.1,z.2.2,0))/\lY up (inP g dg x 0) (jp up m d a c b (cond up (monI m) (monI m).reverse) (cond up (dayI d) (dayI d).reverse)) a o):=by
 unfold jq;rw[vr hml hdl h0 h1 h2];simp only[ob];by_cases f:errF g l dg x q m d k0 k1 k2=0
 ·refine .inr ⟨f,?_⟩;obtain⟨rfl,R⟩:=ew f;have e:=Gz 20000000 (by omega) g l dg x 0 m d k0 k1 k2 R.m2 R.d2;have:∃o,br 20000000 g l dg x 0 m d k0 k1 k2 a c b up (monI m) (dayI d)=some (o.elim (0,0,0,false) λz=>(z.1,z.2.1,z.2.2,true))/\lY up (inP g dg x 0) (jp up m d a c b (cond up (monI m) (monI m).reverse) (cond up (dayI d) (dayI d).reverse)) a o:=by
   cases up
   ·exact BU R.ok m d k0 k1 k2 a c b h (monI m) (dayI d) R.mos (ng d) R.mne R.dne
   ·exact qd R.ok m d k0 k1 k2 a c b h (monI m) (dayI d) R.mos (ng d)
  obtain⟨o,o1,i⟩:=this;refine⟨o,?_,i⟩;rw[f,e]
  all_goals
   simp only[d4,d8,ek,ae,o1];cases o<;>rfl
 ·exact .inl ⟨f,by rw[bne0 f];rfl⟩
def GV:∃a b c,dp 20000000 g l dg x q m d k0 k1 k2=some (a,b,c,errF g l dg x q m d k0 k1 k2):=by
 unfold dp;rcases I8 hml hdl h0 h1 h2 (-9223372036854775808) 0 0 (by omega) true with⟨_,h⟩ | ⟨e,o,h,_⟩
 ·rw[h];exact⟨_,_,_,rfl⟩
 ·rw[h,e];cases o<;>exact⟨_,_,_,rfl⟩
end
def AK{X Z A:Type}{step:X->Option (X⊕Z)}{f:Nat->Int->X}{y:Int->Z}{L:List A}{G:A->Int}{c s0:Int}(k:∀a∈L,0<=G a/\G a<=c)
  (h:∀(i:Nat) (a:A) (s:Int),L[i]?=some a->s0<=s->s<=s0+c*(i:Int)->step (f i s)=some (.inl (f (i+1) (s+G a)))) (e:∀s,step (f L.length s)=some (.inr (y s))) {N:Nat} (b:L.length<N):
  au step N (f 0 s0)=some (y (s0+(L.map G).sum)):=by
 have j:∀(r i:Nat) (s:Int),i+r=L.length->s0<=s->s<=s0+c*(i:Int)->∀N,r<N->au step N (f i s)=some (y (s+((L.drop i).map G).sum)):=by
  intro r
  induction r with
  | zero=>
   intro i s hi h1 h2 N b;obtain⟨N,rfl⟩:∃q,N=q+1:=⟨N - 1,by omega⟩;obtain rfl:i=L.length:=by omega
   rw[au,e];simp
  | succ r ih=>
   intro i s hi h1 h2 N b;obtain⟨N,rfl⟩:∃q,N=q+1:=⟨N - 1,by omega⟩;have g:L[i]?=some L[i]:=bN (by omega);have l:=k L[i] (AE _);rw[au,h i L[i] s g h1 h2];show au step N _=_;have d:c*((i+1:Nat):Int)=c*(i:Int)+c:=by rw[Int.natCast_add,Int.mul_add];simp
   rw[ih (i+1) _ (by omega) (by omega) (by rw[d];omega) N (by omega),sw (show i<L.length by omega),cU,yM,FW]
 have:=j L.length 0 s0 (by omega) (kg _) (by simp) N b;simpa using this
def tot(Y:Int->Prop)[DecidablePred Y](G:Int->Int):Nat->Int->Int
 | 0,_=>0
 | r+1,v=>(if Y v then G v else 0)+tot Y G r (v+1)
def vA{Y:Int->Prop}[DecidablePred Y]{G:Int->Int}:∀(r:Nat) (v:Int),(∀e,v<=e->¬Y e)->tot Y G r v=0
 | 0,_,_=>rfl
 | r+1,v,h=>by
  rw[tot,ab (h v (kg _)),vA r (v+1) (λe a=>h e (by omega))];rfl
def Ae{Y:Int->Prop}[DecidablePred Y]{G:Int->Int}:∀(k r:Nat) (v:Int),(∀e,v<=e->e<v+(k:Int)->¬Y e)->k<=r->tot Y G r v=tot Y G (r - k) (v+(k:Int))
 | 0,r,v,_,_=>by simp
 | k+1,r,v,h,a=>by
  obtain⟨r,rfl⟩:∃q,r=q+1:=⟨r - 1,by omega⟩;rw[tot,ab (h v (kg _) (by omega)),Ae k r (v+1) (λe h1 h2=>h e (by omega) (by omega)) (by omega)];rw[show r+1 - (k+1)=r - k by omega,show v+1+(k:Int)=v+((k+1:Nat):Int)by omega,AT]
def C7{X:Type}{step:X->Option (X⊕Int)}{st:Int->Int->Bool->X}{G:Int->Int}{Y:Int->Prop}[DecidablePred Y]{hi lo:Int}{fy:Int->Option (Int×Bool)}
  (o:∀e,Y e->lo<=e/\e<=hi) (h0:-10000000000000000<=lo) (h1:hi<=10000000000000000) (H:∀e,Y e->0<=G e/\G e<=1000)
  (c:∀a y,Y y->0<=a->a<=100000000000->step (st a y true)=ob (fy (wrap .i64 (y+1))) λr=>some (.inl (st (a+G y) r.1 r.2)))
  (b:∀a y,step (st a y false)=some (.inr a))
  (k:∀v,-9223372036854775808<=v/\v<9223372036854775808->∃w f,fy v=some (w,f)/\ur true Y v w f):
  ∀(R r:Nat) (a v y:Int) (f:Bool),r<=R->ur true Y v y f->hi - v<(r:Int)->0<=a->a+1000*(R:Int)<=100000000000->∀N,r<N->
   au step N (st a y f)=some (a+tot Y G r v):=by
 intro R
 induction R with
 | zero=>
  intro r a v y f u g t p x N E;obtain⟨N,rfl⟩:∃q,N=q+1:=⟨N - 1,by omega⟩;obtain rfl:r=0:=by omega
  cases f with
  | false=>rw[au,b,vA 0 v (λe j h=>g.2 rfl e h j)];simp
  | true=>
   obtain⟨d,i,_⟩:=g.1 rfl;have:=o y d;rw[aW]at i;omega
 | succ R ih=>
  intro r a v y f u g t p x N E;obtain⟨N,rfl⟩:∃q,N=q+1:=⟨N - 1,by omega⟩;cases f with
  | false=>rw[au,b,vA r v (λe j h=>g.2 rfl e h j)];simp
  | true=>
   obtain⟨d,i,F⟩:=g.1 rfl;have D:=o y d;rw[aW]at i;have I:=H y d;obtain⟨w,n,A,s⟩:=k (y+1) (by omega);have C:step (st a y true)=some (.inl (st (a+G y) w n)):=by
    rw[c a y d p (by omega),wrap_i64 (y+1) (by omega) (by omega),A];rfl
   have l:tot Y G r v=tot Y G (r - (y - v).toNat) (v+(((y - v).toNat:Nat):Int)):=Ae (y - v).toNat r v (λe h1 h2 z=>by
    have:=F e z (by rw[aW];exact h1);rw[aW]at this;omega) (by omega)
   rw[show v+(((y - v).toNat:Nat):Int)=y by omega]at l;obtain⟨B,m⟩:∃q,r - (y - v).toNat=q+1:=⟨r - (y - v).toNat - 1,by omega⟩;rw[m,tot,ad d]at l;rw[au,C];show au step N _=_;rw[ih B (a+G y) (y+1) w n (by omega) s (by omega) (by omega) (by omega) N (by omega),l,FW]
def HN{A:Type}(L:List A)(p:A->Bool):(L.map λk=>if p k then(1:Int)else 0).sum=((L.filter p).length:Int):=by
 induction L with
 | nil=>rfl
 | cons a L ih=>
  rw[cU,yM,ih];by_cases h:p a=true
  ·rw[ad h,zV h,bp];omega
  ·rw[ab h,Br h];omega
def GA{A B:Type}(L:List A)(F:A->List B):(L.map λa=>((F a).length:Int)).sum=((L.flatMap F).length:Int):=by
 induction L with
 | nil=>rfl
 | cons a L ih=>rw[cU,yM,ih,fO,cR];omega
def Nx (n:Nat) (A:100<n) (s0 y b p j:Int) (o e:List Int) (g l:Bool) (dg:aa) (x q:Int) (m d:aa) (k0 k1 k2:Int) (h0:0<=s0) (h1:s0<=1000000000000) (B:e.length<=31):
  au (du n) n (s0,y,b,p,j,((e.length:Nat):Int),0,o,e,g,l,dg,x,q,m,d,k0,k1,k2)=some (s0+(((e.filter λk=>decide (k<=b)).length:Nat):Int),y,p,j,o,e,g,l,dg,x,q,m,d,k0,k1,k2):=by
 have:=AK (step:=du n) (f:=λi s=>(s,y,b,p,j,((e.length:Nat):Int),(i:Int),o,e,g,l,dg,x,q,m,d,k0,k1,k2)) (y:=λs=>(s,y,p,j,o,e,g,l,dg,x,q,m,d,k0,k1,k2)) (L:=e) (G:=λk=>if decide (k<=b)=true then 1 else 0) (c:=1) (s0:=s0)
  (λa _=>by by_cases h:decide (a<=b)=true<;>simp [h])
  (λi k s hi w z=>by
   have r:i<e.length:=(o9.1 hi).1;have t:wrap .i64 ((i:Int)+1)=((i+1:Nat):Int):=by rw [wrap_i64 _ (by omega) (by omega)];omega
   have u:wrap .i64 (s+1)=s+1:=wrap_i64 _ (by omega) (by omega);unfold du;simp only [d4,d8,d16,ef r,hi,ob,t];rw [ay (show (i:Int)<((e.length:Nat):Int) by omega)];cases v:decide (k<=b)
   ·simp [t]
   ·simp [t,u])
  (λs=>by
   unfold du;simp only [d4,d8,d16];rw [ax (show ¬((e.length:Nat):Int)<((e.length:Nat):Int) by omega)];rfl)
  (N:=n) (by omega)
 rw [HN e (λk=>decide (k<=b))] at this;exact this
def NR (n:Nat) (w:1000<n) (s0 y:Int) (p:bU y) (b e:List Int) (g l:Bool) (dg:aa) (x q:Int) (m d:aa) (k0 k1 k2:Int) (h0:0<=s0) (h1:s0<=100000000000) (r:e.length<=31) (hm:ra d b):
  au (dw n) n (s0,y,((b.length:Nat):Int),0,b,e,g,l,dg,x,q,m,d,k0,k1,k2)=some (s0+((((b.flatMap λj=>(e.filter λk=>decide (k<=jk d y j))).length:Nat)):Int),y,b,e,g,l,dg,x,q,m,d,k0,k1,k2):=by
 have hml:=hm.1;have hc:∀a:Int,(((e.filter λk=>decide (k<=jk d y a)).length:Nat):Int)<=31:=λa=>by
  have:=uN (λk=>decide (k<=jk d y a)) e;omega
 have:=AK (step:=dw n) (f:=λi s=>(s,y,((b.length:Nat):Int),(i:Int),b,e,g,l,dg,x,q,m,d,k0,k1,k2)) (y:=λs=>(s,y,b,e,g,l,dg,x,q,m,d,k0,k1,k2)) (L:=b) (G:=λj=>(((e.filter λk=>decide (k<=jk d y j)).length:Nat):Int)) (c:=31) (s0:=s0)
  (λa _=>⟨by omega,hc a⟩)
  (λi j s hi u v=>by
   have o:i<b.length:=(o9.1 hi).1;have t:wrap .i64 ((i:Int)+1)=((i+1:Nat):Int):=by rw [wrap_i64 _ (by omega) (by omega)];omega
   unfold dw;simp only [d4,d8,d16,ef o,hi,ob,tf n g l dg x q m d k0 k1 k2 p (λh=>hm.2 h j (dK hi)),Nx n (by omega) s y (jk d y j) _ _ b e g l dg x q m d k0 k1 k2 (by omega) (by omega) r];rw [ay (show (i:Int)<((b.length:Nat):Int) by omega)];simp only [aj,t])
  (λs=>by
   unfold dw;simp only [d4,d8,d16];rw [ax (show ¬((b.length:Nat):Int)<((b.length:Nat):Int) by omega)];rfl)
  (N:=n) (by omega)
 rw [GA b (λj=>e.filter λk=>decide (k<=jk d y j))] at this;exact this
def GR(m d:aa)(y:Int):((monI m).flatMap λb=>(dayI d).filter λk=>decide (k<=jk d y b)).length=(gv m d y).length:=by
 unfold gv mu
 induction monI m with
 | nil=>rfl
 | cons a L ih=>rw[fO,fO,cR,cR,ih,mw]
def rS(m d:aa)(y:Int):(gv m d y).length<=1000:=by
 have h1:=Aa m;unfold gv;have:∀L:List Int,(L.flatMap (mu d y)).length<=31*L.length:=by
  intro L
  induction L with
  | nil=>simp
  | cons a L ih=>
   have:=BZ d y a;rw[fO,cR,bp];omega
 have:=this (monI m);omega
section
variable {g l:Bool} {dg:List UInt8} {x q:Int} {m d:List UInt8} {k0 k1 k2:Int} (hml:m.length<=18) (hdl:dg.length<=100) (h0:0<=k0) (h1:0<=k1) (h2:0<=k2)
include hml hdl h0 h1 h2
def Aw:(errF g l dg x q m d k0 k1 k2≠0/\bg 20000000 g l dg x q m d k0 k1 k2=some (0,errF g l dg x q m d k0 k1 k2))\/
  (errF g l dg x q m d k0 k1 k2=0/\(d=[]/\g=false/\hasX dg=true)/\bg 20000000 g l dg x q m d k0 k1 k2=some (wrap .i64 (10 ^ Mk.cnt dg*(((monI m).length:Nat):Int)),0))\/
  (errF g l dg x q m d k0 k1 k2=0/\¬(d=[]/\g=false/\hasX dg=true)/\∃lo hi:Int,(∀e,inP g dg x 0 e->lo<=e/\e<=hi)/\hi - lo<=10000/\bg 20000000 g l dg x q m d k0 k1 k2=some (tot (inP g dg x 0) (λy=>(((gv m d y).length:Nat):Int)) (hi - lo+1).toNat lo,0)):=by
 unfold bg;rw [vr hml hdl h0 h1 h2];simp only [ob];by_cases k:errF g l dg x q m d k0 k1 k2=0
 ·right;obtain ⟨rfl,R⟩:=ew k;have p:=Gz 20000000 (by omega) g l dg x 0 m d k0 k1 k2 R.m2 R.d2;have n:∀A B:Option (Int×Int),((d==([]:aa))&&(!g&&hasX dg))=false->cond (d==([]:aa)) (cond (!g) (cond (hasX dg) A B) B) B=B:=λA B h=>by
   cases j:(d==([]:aa))<;>cases g<;>cases i:hasX dg<;>simp_all
  rw [k];simp only [ek,ae,p,d4,d8,d16,kY];by_cases c:d=[]/\g=false/\hasX dg=true
  ·refine .inl ⟨trivial,c,?_⟩;obtain ⟨rfl,rfl,i⟩:=c;obtain ⟨_,_,_,J,j⟩:=mm R.ok i;rw [i,Mk.GF (rl J j)];rfl
  ·refine .inr ⟨trivial,c,?_⟩;have hb':((d==([]:aa))&&(!g&&hasX dg))=false:=by
    by_cases j:d=[]
    ·subst j;cases g
     ·cases i:hasX dg
      ·rfl
      ·exact absurd ⟨rfl,rfl,i⟩ c
     ·rfl
    ·rw [cj j];rfl
   rw [n _ _ hb'];obtain ⟨lo,hi,b,F,o,r⟩:=ny R.ok;refine ⟨lo,hi,b,F,?_⟩;obtain ⟨w,f,D,t⟩:=qt R.ok m d k0 k1 k2 (-9223372036854775808) (by omega) true (monI m) (dayI d);have e2':ur true (inP g dg x 0) lo w f:=by
    refine ⟨λs=>?_,λs e h1 _=>t.2 s e h1 (by rw [aW];have:=b e h1;omega)⟩;obtain ⟨u,K,I⟩:=t.1 s;refine ⟨u,by rw [aW];exact (b w u).1,λe h1 _=>I e h1 (by rw [aW];have:=b e h1;omega)⟩
   have C:=C7 (step:=dx 20000000) (st:=λa y f=>(a,y,f,monI m,dayI d,g,l,dg,x,0,m,d,k0,k1,k2)) (G:=λy=>(((gv m d y).length:Nat):Int)) (Y:=inP g dg x 0) (hi:=hi) (lo:=lo) (fy:=λv=>aC 20000000 g l dg x 0 m d k0 k1 k2 v true (monI m) (dayI d))
    b o r (λe _=>⟨by omega,by have:=rS m d e;omega⟩)
    (λa y E H c=>by
     unfold dx;simp only [d4,d8,d16,aj];rw [NR 20000000 (by omega) a y (mH E) (monI m) (dayI d) g l dg x 0 m d k0 k1 k2 H c (ng d) R.mos,GR];rfl)
    (λa y=>rfl)
    (λv z=>qt R.ok m d k0 k1 k2 v z true (monI m) (dayI d))
    10001 (hi - lo+1).toNat 0 lo w f (by omega) e2' (by omega) (by omega) (by omega) 20000000 (by omega)
   rw [D];simp only [C,AT]
 ·exact .inl ⟨k,by rw [bne0 k];rfl⟩
def yq:∃v,bg 20000000 g l dg x q m d k0 k1 k2=some (v,errF g l dg x q m d k0 k1 k2):=by
 rcases Aw hml hdl h0 h1 h2 with⟨_,h⟩ | ⟨a,_,h⟩ | ⟨a,_,lo,hi,_,_,h⟩
 ·exact⟨_,h⟩
 ·exact⟨_,by rw[h,a]⟩
 ·exact⟨_,by rw[h,a]⟩
end
def cmpC(k:Nat)(a b:Int×Int×Int):Int:=
 if a.1<b.1 then -1 else if a.1>b.1 then 1 else if k<2 then 0 else
 if a.2.1<b.2.1 then -1 else if a.2.1>b.2.1 then 1 else if k<3 then 0 else
 if a.2.2<b.2.2 then -1 else if a.2.2>b.2.2 then 1 else 0
def By{k:Nat}{a b:Int×Int×Int}:cmpC k a b=0↔a.1=b.1/\(¬k<2->a.2.1=b.2.1/\(¬k<3->a.2.2=b.2.2)):=by
 unfold cmpC;constructor
 ·intro h;split at h
  ·cases h
  ·split at h
   ·cases h
   ·refine⟨by omega,λd=>?_⟩;rw[ab d]at h;split at h
    ·cases h
    ·split at h
     ·cases h
     ·refine⟨by omega,λc=>?_⟩;rw[ab c]at h;split at h
      ·cases h
      ·split at h
       ·cases h
       ·omega
 ·rintro⟨h1,h2⟩;rw[ab (by omega),ab (by omega)];by_cases d:k<2
  ·rw[ad d]
  ·obtain⟨g,e⟩:=h2 d;rw[ab d,ab (by omega),ab (by omega)];by_cases c:k<3
   ·rw[ad c]
   ·have f:=e c;rw[ab c,ab (by omega),ab (by omega)]
def ascI(l:List Int):Prop:=l.Pairwise (·<·)
def E8(s:aa)(g:Nat):ascI (qu (fitN s g)):=by
 unfold ascI qu fitN;rw[sS];refine u1 ?_ ((FO 1).filter _);intro a b h;omega
def Dp(m:aa):ascI (monI m):=by
 unfold monI;split
 ·exact wb _ _
 ·split
  ·exact wb _ _
  ·exact E8 m 12
def Fq(d:aa):ascI (dayI d):=by
 unfold dayI;split
 ·exact wb _ _
 ·exact E8 d 31
def xq{l₁ b:List Int}{a e:Int}(h:ascI (l₁++a::b))(c:e∈l₁++a::b):e∈l₁\/e=a\/(e∈b/\a<e):=by
 rcases kn.1 c with h1 | h1
 ·exact .inl h1
 ·rcases bv.1 h1 with h2 | h2
  ·exact .inr (.inl h2)
  ·have:=(zr.1 h).2.1;exact .inr (.inr ⟨h2,(yR.1 this).1 e h2⟩)
def iY{m d:aa}{y:Int}{z:Int×Int×Int}:z∈gv m d y↔z.1=y/\z.2.1∈monI m/\z.2.2∈dayI d/\z.2.2<=jk d y z.2.1:=by
 unfold gv mu;simp only[mY,ch,iU,aT];constructor
 ·rintro⟨b,h1,k,⟨h2,a⟩,rfl⟩;exact⟨rfl,h1,h2,a⟩
 ·rintro⟨h0,h1,h2,a⟩;exact⟨z.2.1,h1,z.2.2,⟨h2,a⟩,by rw[<-h0]⟩
def AA{up:Bool}{m d:aa}{g j f y:Int}{c b:List Int}{z:Int×Int×Int}(h:jp up m d g j f c b y=some z):z.1=y/\z.2.1∈c/\z.2.2∈b/\z.2.2<=jk d y z.2.1:=by
 unfold jp at h;obtain⟨l,h1,h2⟩:=List.exists_of_findSome?_eq_some h;unfold mi at h2;split at h2
 ·cases h2
 ·obtain⟨k,e,rfl⟩:=vz.1 h2;have i:=C6 e;have a:=List.find?_some e;unfold kw at a;simp only[aw,aT]at a;exact⟨rfl,h1,i,a.1⟩
def A6{m d:aa}{a c f:Int}(x:d≠[]->m≠[]){z:Int×Int×Int}(G:z∈gv m d a)(h1:m≠[]->z.2.1=c)(h2:d≠[]->z.2.2=f):
  ∃w,jp true m d a c f (monI m) (dayI d) a=some w/\w.1=a/\(m≠[]->w.2.1=c)/\(d≠[]->w.2.2=f):=by
 obtain⟨z1,z2,u,y⟩:=iY.1 G;have e:mq true m a c a z.2.1=false:=by
  unfold mq;by_cases hm:m=[]
  ·subst hm;simp
  ·rw[h1 hm];simp[ahd]
 have b:∀s:Bool,kw true s d f (jk d a z.2.1) z.2.2=true:=λs=>by
  unfold kw;rw[ay y];by_cases g:d=[]
  ·subst g;simp
  ·rw[h2 g];simp[ahd]
 have v:jp true m d a c f (monI m) (dayI d) a≠none:=by
  unfold jp;rw[Ne,D8];intro h;have:=h z.2.1 z2;unfold mi at this;rw[e]at this;simp only[cb,aD,yB,uH]at this;exact this z.2.2 u (b _)
 cases q:jp true m d a c f (monI m) (dayI d) a with
 | none=>exact absurd q v
 | some w=>
  refine⟨w,rfl,(AA q).1,?_⟩;have key:m≠[]->w.2.1=c/\(d≠[]->w.2.2=f):=by
   intro hm;have o:=h1 hm;unfold jp at q;obtain⟨l₁,j,p,A,i,H⟩:=II.1 q;have r:j=c:=by
    have n:c∈l₁++j::p:=by rw[<-A,<-o];exact z2
    rcases xq (by rw[<-A];exact Dp m) n with h | h | ⟨_,h⟩
    ·have:=H c h;unfold mi at this;rw[o]at e b;rw[e]at this;simp only[cb,aD,yB,uH]at this;exact absurd (b _) (this z.2.2 u)
    ·exact h.symm
    ·unfold mi at i;have:mq true m a c a j=true:=by
      unfold mq;rw[cj hm];simp[ahd,h]
     rw[this]at i;cases i
   subst r;rw[o]at e b y;unfold mi at i;rw[e]at i;simp only[cb,aD]at i;obtain⟨k,E,rfl⟩:=vz.1 i;refine⟨rfl,λg=>?_⟩;obtain⟨t,D,C,B,F⟩:=ID.1 E;have n:f∈D++k::C:=by rw[<-B,<-h2 g];exact u
   have l:nD m a j a j=true:=by unfold nD;simp
   rcases xq (by rw[<-B];exact Fq d) n with h | h | ⟨_,h⟩
   ·have hk':=b (nD m a j a j);rw[h2 g]at hk';have:=F f h;rw[hk']at this;cases this
   ·exact h.symm
   ·unfold kw at t;rw[l,cj g]at t;simp[ahd,h]at t
  refine⟨λhm=>(key hm).1,λg=>(key (x g)).2 g⟩
def mA{m d:aa}(b:d≠[]->m≠[]):bH m d<2↔m=[]:=by
 constructor
 ·intro h;by_cases hm:m=[]
  ·exact hm
  ·by_cases a:d=[]
   ·subst a;rw[Jc hm]at h;omega
   ·rw[I5 hm a]at h;omega
 ·rintro rfl;have:d=[]:=by
   by_cases a:d=[]
   ·exact a
   ·exact absurd rfl (b a)
  subst this;decide
def ue{m d:aa}(b:d≠[]->m≠[]):bH m d<3↔d=[]:=by
 constructor
 ·intro h;by_cases a:d=[]
  ·exact a
  ·rw[I5 (b a) a]at h;omega
 ·rintro rfl;by_cases hm:m=[]
  ·subst hm;decide
  ·rw[Jc hm];omega
def rt{m d:aa}(a:d≠[]->m≠[]){z c:Int×Int×Int}:cmpC (bH m d) z c=0↔z.1=c.1/\(m≠[]->z.2.1=c.2.1)/\(d≠[]->z.2.2=c.2.2):=by
 rw[By,mA a,ue a];constructor
 ·rintro⟨h1,h2⟩;exact⟨h1,λhm=>(h2 hm).1,λb=>(h2 (a b)).2 b⟩
 ·rintro⟨h1,h2,e⟩;exact⟨h1,λhm=>⟨h2 hm,e⟩⟩
def isF(g:Bool)(dg:aa)(x:Int)(m d:aa)(c:Int×Int×Int):Prop:=inP g dg x 0 c.1/\∃z∈gv m d c.1,cmpC (bH m d) z c=0
section
variable {g l:Bool} {dg:List UInt8} {x q:Int} {m d:List UInt8} {k0 k1 k2:Int} (hml:m.length<=18) (hdl:dg.length<=100) (h0:0<=k0) (h1:0<=k1) (h2:0<=k2)
include hml hdl h0 h1 h2
def L9(f i j:Int)(v:-9223372036854775808<=f/\f<9223372036854775808):
  ∃b,eG 20000000 g l dg x q m d k0 k1 k2 f i j=some b/\(b=true↔errF g l dg x q m d k0 k1 k2=0/\isF g dg x m d (f,i,j)):=by
 unfold eG;rcases FG hml hdl h0 h1 h2 f i j v with⟨n,h⟩ | ⟨n,o,h,D⟩
 ·rw[h];refine⟨false,?_,by simp[n]⟩;simp only[ob,d4];rw[bA.2 n];rfl
 ·obtain⟨rfl,R⟩:=ew n;rw[h];cases o with
  | none=>
   refine⟨false,rfl,?_⟩;simp only[cb,false_iff,not_and];rintro _ ⟨A,z,u,y⟩;obtain⟨j1,j2,j3⟩:=(rt R.dm).1 y;obtain⟨w,p,_⟩:=A6 R.dm u j2 j3;have:=D f A (by rw[aW];exact kg _);rw[this]at p;cases p
  | some c=>
   obtain⟨e,J,N,s,E⟩:=D;rw[aW]at N;obtain⟨m1,m2,H,C⟩:=AA s;have val:(ob (some ((some c).elim ((0:Int),(0:Int),(0:Int),false,(0:Int)) λz=>(z.1,z.2.1,z.2.2,true,0))) λa=>(cond ((d4 a)==0) (cond a.2.2.2.1 (cond (a.1==f) (cond (m==([]:aa)) (cond (d==([]:aa)) (some true) (some (a.2.2.1==j))) (cond (a.2.1==i) (cond (d==([]:aa)) (some true) (some (a.2.2.1==j))) (some false))) (some false)) (some false)) (some false)))=some ((c.1==f)&&(((m==([]:aa))||(c.2.1==i))&&((d==([]:aa))||(c.2.2==j)))):=by
    have t:((some c).elim ((0:Int),(0:Int),(0:Int),false,(0:Int)) λz=>(z.1,z.2.1,z.2.2,true,0))=(c.1,c.2.1,c.2.2,true,0):=rfl;rw[t];simp only[ob,d4,us,aj];cases(c.1==f)<;>cases(m==([]:aa))<;>cases(c.2.1==i)<;>cases(d==([]:aa))<;>rfl
   refine⟨_,val,?_⟩;have k:((c.1==f)&&(((m==([]:aa))||(c.2.1==i))&&((d==([]:aa))||(c.2.2==j))))=true↔c.1=f/\(m≠[]->c.2.1=i)/\(d≠[]->c.2.2=j):=by
    simp only[aw,fH,bI,ne_eq];by_cases hm:m=[]<;>by_cases K:d=[]<;>simp[hm,K]
   rw[k];constructor
   ·rintro⟨r,L,G⟩;refine⟨n,?_,c,?_,?_⟩
    ·show inP g dg x 0 f;rw[<-r,m1];exact J
    ·show c∈gv m d f;rw[iY];rw[<-r];rw[<-m1]at C;exact⟨rfl,m2,H,C⟩
    ·exact(rt R.dm).2 ⟨r,L,G⟩
   ·rintro⟨_,A,z,u,y⟩;obtain⟨j1,j2,j3⟩:=(rt R.dm).1 y;obtain⟨w,p,F,M,I⟩:=A6 R.dm u j2 j3;by_cases B:e=f
    ·subst B;rw[p]at s;obtain rfl:=aM s;exact⟨F,M,I⟩
    ·have:=E f A (by rw[aW];exact kg _) (by rw[aW];omega);rw[p]at this;cases this
end
def iV{k:Nat}{a b:Int×Int×Int}:cmpC k a b<0↔a.1<b.1\/(a.1=b.1/\¬k<2/\(a.2.1<b.2.1\/(a.2.1=b.2.1/\¬k<3/\a.2.2<b.2.2))):=by
 unfold cmpC
 repeat' split
 all_goals omega
def mN{k:Nat}{a b:Int×Int×Int}:0<cmpC k a b↔b.1<a.1\/(a.1=b.1/\¬k<2/\(b.2.1<a.2.1\/(a.2.1=b.2.1/\¬k<3/\b.2.2<a.2.2))):=by
 unfold cmpC
 repeat' split
 all_goals omega
def seen(up:Bool)(k:Nat)(c z:Int×Int×Int):Bool:=cond up (decide (¬cmpC k z c<0)) (decide (¬0<cmpC k z c))
def E7(a b:Int):ahd true a b=decide (a<b):=rfl
def Dc(a b:Int):ahd false a b=decide (a>b):=rfl
def Ft{up:Bool}{m d:aa}(b:d≠[]->m≠[]){f i j e g:Int}(k:Int)(h:mq up m f i e g=true):seen up (bH m d) (f,i,j) (e,g,k)=false:=by
 unfold mq at h;simp only[aw,ld,bI,bA]at h;obtain⟨h1,h2,a⟩:=h;have c:¬bH m d<2:=λh=>h2 ((mA b).1 h);unfold seen;cases up
 ·rw[Dc,aT]at a;rw[ae,jt,Ep];rw[mN];right;exact⟨h1,c,.inl a⟩
 ·rw[E7,aT]at a;rw[aj,jt,Ep];rw[iV];right;exact⟨h1,c,.inl a⟩
def B2{up:Bool}{m d:aa}(c:d≠[]->m≠[]){g l n e j:Int}(f:Mk.cu up g e)(b k:Int)(h:mq up m g l e j=false):
  kw up (nD m g l e j) d n b k=(decide (k<=b)&&seen up (bH m d) (g,l,n) (e,j,k)):=by
 have h2:=mA c;have o:=ue c;unfold kw;congr 1;rw[Bq];unfold mq at h;unfold nD seen;by_cases hm:m=[]
 ·have a:d=[]:=by
   by_cases a:d=[]
   ·exact a
   ·exact absurd hm (c a)
  have p:=h2.2 hm;subst a;cases up
  ·rw[cQ]at f;simp only[us,da,qR,qH,dU,ae,aT,mN,true_iff];omega
  ·rw[aW]at f;simp only[us,da,qR,qH,dU,aj,aT,iV,true_iff];omega
 ·have p:¬bH m d<2:=λh=>hm (h2.1 h);rw[cj hm]at h ⊢;by_cases a:d=[]
  ·have i:=o.2 a;subst a;cases up
   ·rw[cQ]at f;rw[Dc]at h;simp only[dU,kB,nX,bA,jt]at h;simp only[us,da,qR,qH,dU,ae,aT,mN,true_iff];omega
   ·rw[aW]at f;rw[E7]at h;simp only[dU,kB,nX,bA,jt]at h;simp only[us,da,qR,qH,dU,aj,aT,iV,true_iff];omega
  ·have i:¬bH m d<3:=λh=>a (o.1 h);rw[cj a];cases up
   ·rw[cQ]at f;rw[Dc]at h ⊢;simp only[dU,kB,nX,bA,jt]at h;simp only[vk,dU,kB,ld,nX,bA,jt,ae,aT,mN];omega
   ·rw[aW]at f;rw[E7]at h ⊢;simp only[dU,kB,nX,bA,jt]at h;simp only[vk,dU,kB,ld,nX,bA,jt,aj,aT,iV];omega
def kv{A B:Type}(p:A->Bool)(f:A->B)(q:B->Bool):∀l:List A,((l.filter p).map f).find? q=(l.find? λa=>p a&&q (f a)).map f
 | []=>rfl
 | a::l=>by
  rw[Bn];by_cases b:p a=true
  ·rw[zV b,cU,Bn,b];cases q (f a)
   ·exact kv p f q l
   ·rfl
  ·rw[Br b,kv p f q l];rw[Ao]at b;rw[b];rfl
def uK{up:Bool}{m d:aa}(j:d≠[]->m≠[]){c f i e:Int}(n:Mk.cu up c e)(l:List Int)(b:Int):
  mi up m d c f i e l b=((l.filter λk=>decide (k<=jk d e b)).map λk=>(e,b,k)).find? (seen up (bH m d) (c,f,i)):=by
 rw[kv];unfold mi;by_cases g:mq up m c f e b=true
 ·rw[ad g];have:(λa=>decide (a<=jk d e b)&&seen up (bH m d) (c,f,i) (e,b,a))=λ_=>false:=by
   funext k;rw[Ft j k g,qH]
  rw[this];have:l.find? (λ_=>false)=none:=uH.2 λ_ _ h=>by cases h
  rw[this];rfl
 ·rw[ab g];rw[Ao]at g;have:kw up (nD m c f e b) d i (jk d e b)=(λa=>decide (a<=jk d e b)&&seen up (bH m d) (c,f,i) (e,b,a)):=by
   funext k;exact B2 j n _ k g
  rw[this]
def jh{A B:Type}(f:A->List B)(q:B->Bool):∀l:List A,(l.flatMap f).find? q=l.findSome? λa=>(f a).find? q
 | []=>rfl
 | a::l=>by
  rw[fO,List.find?_append,xM,jh f q l];cases(f a).find? q<;>rfl
def og{A B:Type}(f:A->List B):∀l:List A,(l.flatMap f).reverse=l.reverse.flatMap λa=>(f a).reverse
 | []=>rfl
 | a::l=>by
  rw[fO,List.reverse_append,og f l,zq,Ak];simp
def CM{up:Bool}{m d:aa}(a:d≠[]->m≠[]){b g f e:Int}(c:Mk.cu up b e):
  jp up m d b g f (cond up (monI m) (monI m).reverse) (cond up (dayI d) (dayI d).reverse) e=(cond up (gv m d e) (gv m d e).reverse).find? (seen up (bH m d) (b,g,f)):=by
 unfold jp gv;cases up
 ·simp only[ae];rw[og,jh];congr 1;funext h;rw[uK a c];unfold mu;rw[<-List.map_reverse,<-List.filter_reverse]
 ·simp only[aj];rw[jh];congr 1;funext h;rw[uK a c];rfl
def allF(m d:aa)(a:List Int):List (Int×Int×Int):=a.flatMap (gv m d)
def zK{up:Bool}{m d:aa}{c g f e:Int}(b:¬Mk.cu up c e):(cond up (gv m d e) (gv m d e).reverse).find? (seen up (bH m d) (c,g,f))=none:=by
 rw[uH];intro z a;have hz':z∈gv m d e:=by
  cases up
  ·exact rQ.1 a
  ·exact a
 have h1:=(iY.1 hz').1;unfold seen;cases up
 ·rw[cQ]at b;simp only[ae,aT,mN];omega
 ·rw[aW]at b;simp only[aj,aT,iV];omega
def zQ{up:Bool}{m d:aa}(s:d≠[]->m≠[]){f k l:Int}{Y:Int->Prop}{c:List Int}(u:∀y,y∈c↔Y y)(v:ascI c){o:Option (Int×Int×Int)}
  (t:lY up Y (jp up m d f k l (cond up (monI m) (monI m).reverse) (cond up (dayI d) (dayI d).reverse)) f o):
  o=(cond up (allF m d c) (allF m d c).reverse).find? (seen up (bH m d) (f,k,l)):=by
 have r:∀e,Mk.cu up f e->(cond up (gv m d e) (gv m d e).reverse).find? (seen up (bH m d) (f,k,l))=jp up m d f k l (cond up (monI m) (monI m).reverse) (cond up (dayI d) (dayI d).reverse) e:=λe q=>(CM s q).symm;have A:(cond up (allF m d c) (allF m d c).reverse).find? (seen up (bH m d) (f,k,l))=(cond up c c.reverse).findSome? λe=>(cond up (gv m d e) (gv m d e).reverse).find? (seen up (bH m d) (f,k,l)):=by
  unfold allF;cases up
  ·simp only[ae];rw[og,jh]
  ·simp only[aj];rw[jh]
 have hm:∀y,y∈cond up c c.reverse↔Y y:=λy=>by
  cases up
  ·exact rQ.trans (u y)
  ·exact u y
 rw[A];cases o with
 | none=>
  symm;rw[D8];intro e q;by_cases h:Mk.cu up f e
  ·rw[r e h];exact t e ((hm e).1 q) h
  ·exact zK h
 | some z=>
  obtain⟨e,x,w,c3,c4⟩:=t;symm;obtain⟨l₁,p,n⟩:=List.append_of_mem ((hm e).2 x);rw[II];refine⟨l₁,e,p,n,by rw[r e w];exact c3,λg i=>?_⟩;by_cases h:Mk.cu up f g
  ·rw[r g h];have B:Y g:=(hm g).1 (by rw[n];exact List.mem_append_left _ i);refine c4 g B h ?_;cases up
   ·rw[cQ];have j:(c.reverse).Pairwise (λa b=>b<a):=List.pairwise_reverse.2 v;simp only[ae]at n;rw[n]at j;have:=(zr.1 j).2.2 g i e (kP);omega
   ·rw[aW];have j:=v;unfold ascI at j;simp only[aj]at n;rw[n]at j;have:=(zr.1 j).2.2 g i e (kP);omega
  ·exact zK h
def uk(k:Nat)(L:List (Int×Int×Int)):Prop:=L.Pairwise λa b=>cmpC k a b<0
def uQ{m d:aa}(c:d≠[]->m≠[])(y f:Int):uk (bH m d) (mu d y f):=by
 unfold uk;by_cases e:d=[]
 ·subst e;rw[tu];exact wb _ _
 ·have h2:¬bH m d<2:=λh=>c e ((mA c).1 h);have g:¬bH m d<3:=λh=>e ((ue c).1 h);unfold mu;rw[sS];refine u1 ?_ ((Fq d).filter _);intro a b h;rw[iV];exact .inr ⟨rfl,h2,.inr ⟨rfl,g,h⟩⟩
def Fa{m d:aa}(c:d≠[]->m≠[])(y:Int):uk (bH m d) (gv m d y):=by
 by_cases hm:m=[]
 ·subst hm;unfold gv;have:monI []=[0]:=rfl;rw[this];simp only[fO,List.flatMap_nil,uR];exact uQ c y 0
 ·have h2:¬bH m d<2:=λh=>hm ((mA c).1 h);unfold gv uk;rw[List.pairwise_flatMap];refine⟨λg _=>uQ c y g,u1 ?_ (Dp m)⟩;intro a b h x f z e;unfold mu at f e;obtain⟨_,_,rfl⟩:=ch.1 f;obtain⟨_,_,rfl⟩:=ch.1 e;rw[iV];exact .inr ⟨rfl,h2,.inl h⟩
def GM{m d:aa}(c:d≠[]->m≠[]){e:List Int}(g:ascI e):uk (bH m d) (allF m d e):=by
 unfold allF uk;rw[List.pairwise_flatMap];refine⟨λy _=>Fa c y,u1 ?_ g⟩;intro a b h x i z f;rw[iV];left;rw[(iY.1 i).1,(iY.1 f).1];exact h
def ru{k:Nat}{L:List (Int×Int×Int)}(h:uk k L){i j:Nat}(hij:i<j)(hj:j<L.length):cmpC k (L[i]'(by omega)) L[j]<0:=
 List.pairwise_iff_getElem.1 h i j (by omega) hj hij
def KV{A:Type}{L:List A}{p:A->Bool}{i:Nat}(hi:i<L.length)(hp:p L[i]=true)(h:∀j (hj:j<i),p (L[j]'(by omega))=false):L.find? p=some L[i]:=by
 rw[ID];refine⟨hp,L.take i,L.drop (i+1),?_,λa ha=>?_⟩
 ·rw[<-sw hi,qw]
 ·obtain⟨j,hj,rfl⟩:=List.mem_iff_getElem.1 ha;rw[dj]at hj;rw[List.getElem_take,h j (by omega)];rfl
def FA{A:Type}{L:List A}{p:A->Bool}(h:∀j (b:j<L.length),p L[j]=false):L.find? p=none:=by
 rw[uH];intro a c;obtain⟨j,b,rfl⟩:=List.mem_iff_getElem.1 c;rw[h j b];simp
open Classical in
noncomputable def yrs(g:Bool)(dg:aa)(x:Int):List Int:=
 ((List.range ((sgn g (iC g dg x 0)).2 - (sgn g (iC g dg x 0)).1+1).toNat).map λj:Nat=>(sgn g (iC g dg x 0)).1+(j:Int)).filter λy=>decide (inP g dg x 0 y)
def kN{g l:Bool}{dg:aa}{x:Int}(a:okY g l dg x 0)(y:Int):y∈yrs g dg x↔inP g dg x 0 y:=by
 obtain⟨d,c,b⟩:=vF a;unfold yrs;rw[iU,aT];constructor
 ·exactλh=>h.2
 ·intro h;refine⟨?_,h⟩;have:=b y h;exact ch.2 ⟨(y - (sgn g (iC g dg x 0)).1).toNat,iN.2 (by omega),by omega⟩
def tV(g:Bool)(dg:aa)(x:Int):ascI (yrs g dg x):=by
 unfold yrs ascI;refine List.Pairwise.filter _ ?_;rw[sS];refine u1 ?_ List.pairwise_lt_range;intro a b h;omega
def B6{g l:Bool}{dg:aa}{x:Int}(a:okY g l dg x 0):(sgn g (iC g dg x 0)).2 - (sgn g (iC g dg x 0)).1<=10000/\-10000000000000000<=(sgn g (iC g dg x 0)).1/\(sgn g (iC g dg x 0)).1<=(sgn g (iC g dg x 0)).2/\(sgn g (iC g dg x 0)).2<=10000000000000000:=by
 obtain⟨lo,hi,b,i,e,d⟩:=ny a;obtain⟨f,c,h⟩:=vF a;have h1:=b _ f;have h2:=b _ c;have j:=h _ c;omega
noncomputable def allD(g:Bool)(dg:aa)(x:Int)(m d:aa):List (Int×Int×Int):=allF m d (yrs g dg x)
def Aq(m d:aa):∀a:List Int,(allF m d a).length<=1000*a.length
 | []=>by simp[allF]
 | y::a=>by
  have h1:=rS m d y;have h2:=Aq m d a;unfold allF at h2 ⊢;rw[fO,cR,bp];omega
def KJ{g l:Bool}{dg:aa}{x:Int}(a:okY g l dg x 0):(yrs g dg x).length<=10001:=by
 have:=B6 a;unfold yrs;refine lT (uN _ _) ?_;rw[mw,List.length_range];omega
def rD{g l:Bool}{dg:aa}{x:Int}(a:okY g l dg x 0)(m d:aa):(allD g dg x m d).length<=10001000:=by
 have h1:=Aq m d (yrs g dg x);have h2:=KJ a;unfold allD;omega
def CG{g:Bool}{dg:aa}{x:Int}{m d:aa}(a:d≠[]->m≠[]):uk (bH m d) (allD g dg x m d):=GM a (tV g dg x)
section
variable {g l:Bool} {dg:List UInt8} {x q:Int} {m d:List UInt8} {k0 k1 k2:Int} (hml:m.length<=18) (hdl:dg.length<=100) (h0:0<=k0) (h1:0<=k1) (h2:0<=k2)
include hml hdl h0 h1 h2
def outN(o:Option (Int×Int×Int))(e:Int):Int×Int×Int×Bool×Int:=o.elim (0,0,0,false,e) λz=>(z.1,z.2.1,z.2.2,true,e)
def Is(f:errF g l dg x q m d k0 k1 k2=0)(a c b:Int)(e:-9223372036854775808<=a/\a<9223372036854775808):
  bD 20000000 g l dg x q m d k0 k1 k2 a c b=some (outN ((allD g dg x m d).find? (seen true (bH m d) (a,c,b))) 0):=by
 obtain⟨rfl,R⟩:=ew f;rcases FG hml hdl h0 h1 h2 a c b e with⟨h,_⟩ | ⟨_,o,h,i⟩
 ·exact absurd f h
 ·rw[h];have:=zQ (up:=true) R.dm (kN R.ok) (tV g dg x) i;rw[aj]at this;unfold allD;rw[<-this];rfl
def J9(i:errF g l dg x q m d k0 k1 k2=0)(a e c:Int)(h:-9223372036854775808<=a/\a<9223372036854775808):
  eG 20000000 g l dg x q m d k0 k1 k2 a e c=some ((allD g dg x m d).any λz=>decide (cmpC (bH m d) z (a,e,c)=0)):=by
 obtain⟨rfl,R⟩:=ew i;obtain⟨b,r,f⟩:=L9 hml hdl h0 h1 h2 a e c h;rw[r];congr 1;rw[Bq,f,mf];constructor
 ·rintro⟨_,o,z,t,s⟩;exact⟨z,mY.2 ⟨a,(kN R.ok a).2 o,t⟩,ay s⟩
 ·rintro⟨z,z1,z2⟩;rw[aT]at z2;obtain⟨y,p,j⟩:=mY.1 z1;have n:=(iY.1 j).1;have k:=((rt R.dm).1 z2).1;have:y=a:=by rw[<-n,k]
  subst this;exact⟨i,(kN R.ok y).1 p,z,j,z2⟩
end
def JQ(y:Int)(i:Nat):(minL i:Int)<=lenI y (i:Int):=by
 unfold minL lenI
 repeat' split
 all_goals omega
def Ij{g l:Bool}{dg:aa}{x:Int}(c:okY g l dg x 0){m d:aa}(hm:m≠[])(q:sea m=0)(h:d≠[])(b:fitD m d=true):hasF g dg x m d:=by
 obtain⟨o,_,_⟩:=vF c;refine⟨_,o,?_⟩;unfold fitD at b;simp only[mf,aw]at b;obtain⟨i,hi,p,k,j,a⟩:=b;have hi':=oq.1 hi;have hk':=oq.1 j;have n:minL i<=31:=by
  unfold minL
  repeat' split
  all_goals omega
 have f:((sgn g (iC g dg x 0)).1,(i:Int),(k:Int))∈gv m d (sgn g (iC g dg x 0)).1:=by
  rw[iY];refine⟨rfl,?_,?_,?_⟩
  ·unfold monI;rw[ab hm,ab (by omega)];exact ch.2 ⟨i,iU.2 ⟨hi,p⟩,rfl⟩
  ·unfold dayI;rw[ab h];exact ch.2 ⟨k,iU.2 ⟨oq.2 (by omega),a⟩,rfl⟩
  ·unfold jk;rw[ab h];have:=JQ (sgn g (iC g dg x 0)).1 i;show(k:Int)<=lenI (sgn g (iC g dg x 0)).1 (i:Int);omega
 intro e;rw[e]at f;cases f
def H9{g l:Bool}{dg:aa}{x q:Int}{m d:aa}{k0 k1 k2:Int}(hc:chkD g l dg x q m d k0 k1 k2=0)(k:d=[]\/fitD m d=true):chkF g l dg x q m d k0 k1 k2=0:=by
 obtain⟨a,n,f,i,e⟩:=tg hc;unfold chkF;rw[ab,hc];rintro⟨_,c,j⟩;obtain⟨h1,h2⟩:=e c;have b:q=0:=by
  have:=J1 a;by_cases h:0<q
  ·exact absurd (i h) h1
  ·omega
 subst b;exact j (Ij a h1 h2 c (k.resolve_left c))
def GY{g l:Bool}{dg:aa}{x q:Int}{m d:aa}{k0 k1 k2:Int}(hc:chkD g l dg x q m d k0 k1 k2=0)(a:d=[]\/fitD m d=true):errF g l dg x q m d k0 k1 k2=if 0<q then 1 else 0:=by
 unfold errF;rw[ad (H9 hc a)]
def Lc{k:Nat}{a b c:Int×Int×Int}(h1:cmpC k a b<0)(h2:¬cmpC k a c<0):0<cmpC k b c:=by
 rw[iV]at h1 h2;rw[mN];omega
structure Place(k:Nat)(L:List (Int×Int×Int))(c:Int×Int×Int)(a:Nat):Prop where
 le:a<=L.length
 lo:∀j (h:j<L.length),j<a->cmpC k L[j] c<0
 at_:∀h:a<L.length,¬cmpC k L[a] c<0
 hi:∀j (h:j<L.length),a<j->0<cmpC k L[j] c
def BI{k:Nat}{L:List (Int×Int×Int)}{c:Int×Int×Int}{a:Nat}(P:Place k L c a):L.find? (seen true k c)=L[a]?:=by
 by_cases h:a<L.length
 ·rw[bN h];refine KV h (ay (P.at_ h)) λj b=>ax (λd=>d (P.lo j (by omega) b))
 ·rw[ec (by omega)];exact FA λj b=>ax (λd=>d (P.lo j b (by have:=P.le;omega)))
def yJ:∀{a b:List Int},ascI a->ascI b->(∀x,x∈a↔x∈b)->a=b
 | [],[],_,_,_=>rfl
 | [],y::b,_,_,h=>absurd ((h y).2 kP) (by simp)
 | x::a,[],_,_,h=>absurd ((h x).1 kP) (by simp)
 | x::a,y::b,m,l,h=>by
  obtain⟨d,i⟩:=yR.1 m;obtain⟨f,j⟩:=yR.1 l;have k:x=y:=by
   rcases bv.1 ((h x).1 kP)with e | e
   ·exact e
   ·rcases bv.1 ((h y).2 kP)with g | g
    ·exact g.symm
    ·have:=f x e;have:=d y g;omega
  subst k;rw[yJ i j (λz=>?_)];constructor
  ·intro c;rcases bv.1 ((h z).1 (fE _ c))with e | e
   ·have:=d z c;omega
   ·exact e
  ·intro c;rcases bv.1 ((h z).2 (fE _ c))with e | e
   ·have:=f z c;omega
   ·exact e
def H8{l:Bool}{dg:aa}{x:Int}(c:okY false l dg x 0)(j:hasX dg=true):(yrs false dg x).length=10 ^ Mk.cnt dg:=by
 obtain⟨_,rfl,_,s,q⟩:=mm c j;have hm:=rl s q;obtain⟨k,_,d⟩:=Mk.iy hm;have f:=Mk.tw d;have g:=rC c j;have m:yrs false dg 0=(List.range (10 ^ Mk.cnt dg)).map λi:Nat=>Mk.nth dg.reverse (i:Int):=by
  refine yJ (tV false dg 0) ?_ ?_
  ·unfold ascI;rw[sS];refine List.Pairwise.imp_of_mem ?_ List.pairwise_lt_range;intro a b v o n;have:=iN.1 o;refine Mk.rr f _ _ (by omega) (by omega) ?_;rw[Mk.lL]
   exact_mod_cast this
  ·intro y;rw[kN c y,g y,ch];have p:wOf false y=y:=rfl;rw[p];constructor
   ·rintro⟨h,_⟩;obtain⟨u,t,r⟩:=Mk.wC h;refine⟨(Mk.idx dg.reverse y).toNat,iN.2 ?_,?_⟩
    ·have:((Mk.idx dg.reverse y).toNat:Int)<10 ^ Mk.cnt dg:=by omega
     exact_mod_cast this
    ·show Mk.nth dg.reverse (((Mk.idx dg.reverse y).toNat:Nat):Int)=y;rw[show(((Mk.idx dg.reverse y).toNat:Nat):Int)=Mk.idx dg.reverse y by omega];exact r
   ·rintro⟨i,hi,rfl⟩;refine⟨?_,λh=>by cases h⟩;have e:=Mk.lg f (i:Int) (by omega);rw[lB]at e;rw[Mk.vY];simp only[aw,aT];exact⟨e.1,e.2,Mk.Ai f _ (by omega)⟩
 rw[m,mw,List.length_range]
def Bi{Y:Int->Prop}[DecidablePred Y]{m d:aa}:∀(r:Nat) (v:Int),tot Y (λy=>(((gv m d y).length:Nat):Int)) r v=(((allF m d (((List.range' 0 r).map λj:Nat=>v+(j:Int)).filter λy=>decide (Y y))).length:Nat):Int)
 | 0,v=>rfl
 | r+1,v=>by
  have b:((List.range' 0 (r+1)).map λj:Nat=>v+(j:Int))=v::((List.range' 0 r).map λj:Nat=>v+1+(j:Int)):=by
   rw[we,cU];congr 1
   ·simp
   ·rw[show List.range' (0+1) r=(List.range' 0 r).map (·+1)by rw[show(λx:Nat=>x+1)=(λx=>1+x)from funext λx=>by omega,List.map_add_range'],pI];apply zf;intro a _;simp only[Function.comp];omega
  rw[tot,Bi r (v+1),b];by_cases h:Y v
  ·rw[ad h,zV (by simpa using h)];unfold allF;rw[fO,cR];omega
  ·rw[ab h,Br (by simpa using h),AT]
def zP(m:aa):∀b:List Int,(allF m [] b).length=b.length*(monI m).length
 | []=>by simp[allF]
 | y::b=>by
  have ih:=zP m b;have c:(gv m [] y).length=(monI m).length:=by
   unfold gv
   induction monI m with
   | nil=>rfl
   | cons a L ih=>rw[fO,cR,ih,tu,bp,bp,cP];omega
  unfold allF at ih ⊢;rw[fO,cR,ih,c,bp,ea,wa];omega
section
variable {g l:Bool} {dg:List UInt8} {x q:Int} {m d:List UInt8} {k0 k1 k2:Int} (hml:m.length<=18) (hdl:dg.length<=100) (h0:0<=k0) (h1:0<=k1) (h2:0<=k2)
include hml hdl h0 h1 h2
def Eo(e:errF g l dg x q m d k0 k1 k2=0):bg 20000000 g l dg x q m d k0 k1 k2=some ((((allD g dg x m d).length:Nat):Int),0):=by
 obtain⟨rfl,R⟩:=ew e;have c:=rD R.ok m d;rcases Aw (g:=g) (l:=l) (x:=x) (q:=0) (d:=d) hml hdl h0 h1 h2 with⟨h,_⟩ | ⟨_,⟨rfl,rfl,i⟩,h⟩ | ⟨_,_,lo,hi,f,j,h⟩
 ·exact absurd e h
 ·rw[h];unfold allD at c ⊢;rw[zP,H8 R.ok i]at c ⊢;have hc:((10 ^ Mk.cnt dg*(monI m).length:Nat):Int)=10 ^ Mk.cnt dg*(((monI m).length:Nat):Int):=by
   rw[Bc];congr 1
  rw[<-hc,wrap_i64 _ (by omega) (by omega)]
 ·rw[h,Bi];congr 4;unfold allD;congr 1;refine yJ ?_ (tV g dg x) λy=>?_
  ·unfold ascI;refine List.Pairwise.filter _ ?_;rw[sS];refine u1 ?_ (FO 1);intro a b h;omega
  ·rw[kN R.ok y,iU,aT,ch];constructor
   ·exactλh=>h.2
   ·intro h;have:=f y h;exact⟨⟨(y - lo).toNat,oq.2 (by omega),by omega⟩,h⟩
def outE(o:Option (Int×Int×Int)):Int×Int×Int×Int:=o.elim (0,0,0,0) λz=>(z.1,z.2.1,z.2.2,0)
def FM(b:errF g l dg x q m d k0 k1 k2=0):dp 20000000 g l dg x q m d k0 k1 k2=some (outE (allD g dg x m d)[0]?):=by
 obtain⟨rfl,R⟩:=ew b;unfold dp;rcases I8 hml hdl h0 h1 h2 (-9223372036854775808) 0 0 (by omega) true with⟨h,_⟩ | ⟨_,o,h,f⟩
 ·exact absurd b h
 ·have:=zQ (up:=true) R.dm (kN R.ok) (tV g dg x) f;rw[h,this,aj];show ob (some (outE ((allD g dg x m d).find? (seen true (bH m d) (-9223372036854775808,0,0))))) _=_;have k:(allD g dg x m d).find? (seen true (bH m d) (-9223372036854775808,0,0))=(allD g dg x m d)[0]?:=by
   cases i:allD g dg x m d with
   | nil=>rfl
   | cons z L=>
    rw[List.find?_cons_of_pos]
    ·rfl
    ·have e:z∈allD g dg x m d:=by rw[i];exact kP
     obtain⟨y,j,a⟩:=mY.1 e;have c:=mH ((kN R.ok y).1 j);unfold bU at c;have n:=(iY.1 a).1;unfold seen;simp only[aj,aT,iV];omega
  rw[k];rfl
end
def LQ{g l:Bool}{dg:aa}{x q:Int}{m d:aa}{k0 k1 k2:Int}(c:errF g l dg x q m d k0 k1 k2=0):allD g dg x m d≠[]:=by
 obtain⟨rfl,R⟩:=ew c;have b:chkF g l dg x 0 m d k0 k1 k2=0:=by
  unfold errF at c;by_cases h:chkF g l dg x 0 m d k0 k1 k2=0
  ·exact h
  ·rw[ab h]at c;exact absurd c h
 have i:∃y,inP g dg x 0 y/\gv m d y≠[]:=by
  by_cases e:d=[]
  ·subst e;obtain⟨o,_,_⟩:=vF R.ok;refine⟨_,o,?_⟩;unfold gv;obtain⟨a,L,hm⟩:=I9 R.mne;rw[hm,fO,tu];simp
  ·unfold chkF at b;split at b
   ·cases b
   ·rename_i n;by_cases h:hasF g dg x m d
    ·exact h
    ·exact absurd ⟨b,e,h⟩ n
 obtain⟨y,j,k⟩:=i;obtain⟨z,L,f⟩:=I9 k;intro h;have:z∈allD g dg x m d:=mY.2 ⟨y,(kN R.ok y).2 j,by rw[f];exact kP⟩;rw[h]at this;cases this
def bhd(k:Nat)(c:Int×Int×Int)(b:Int):Int×Int×Int:=if k=1 then(c.1+b,c.2.1,c.2.2)else if k=2 then(c.1,c.2.1+b,c.2.2)else(c.1,c.2.1,c.2.2+b)
def A9{k:Nat}(a:1<=k/\k<=3)(z c:Int×Int×Int):cmpC k z (bhd k c 1)<0↔¬0<cmpC k z c:=by
 rw[iV,mN];unfold bhd;have:k=1\/k=2\/k=3:=by omega
 rcases this with rfl | rfl | rfl<;>simp<;>omega
def vH(k:Nat)(c:Int×Int×Int):cmpC k c c=0:=by
 rw[By];exact⟨rfl,λ_=>⟨rfl,λ_=>rfl⟩⟩
def GE{k:Nat}{a b:Int×Int×Int}:cmpC k a b<0↔0<cmpC k b a:=by
 rw[iV,mN];constructor
 all_goals intro h;rcases h with h | ⟨h1,h2,c⟩
 ·exact .inl h
 ·refine .inr ⟨h1.symm,h2,?_⟩;omega
 ·exact .inl h
 ·refine .inr ⟨h1.symm,h2,?_⟩;omega
def BX{k:Nat}{L:List (Int×Int×Int)}(c:uk k L){i:Nat}(hi:i<L.length):Place k L L[i] i:=by
 refine⟨by omega,λj d a=>ru c a hi,λ_=>?_,λj d b=>GE.1 (ru c b d)⟩;rw[vH];omega
def xL{k:Nat}(e:1<=k/\k<=3){L:List (Int×Int×Int)}(d:uk k L){i:Nat}(hi:i<L.length):Place k L (bhd k L[i] 1) (i+1):=by
 have P:=BX d hi;have c:∀j (b:j<L.length),i<j->¬cmpC k L[j] (bhd k L[i] 1)<0:=λj b a=>by
  rw[A9 e];have:=P.hi j b a;omega
 refine⟨by omega,λj b f=>?_,λh=>c _ h (by omega),λj b a=>Lc (ru d a b) (c (i+1) (by omega) (by omega))⟩;rw[A9 e];by_cases h:j=i
 ·subst h;rw[vH];omega
 ·have:=P.lo j b (by omega);omega
def KL(m:aa):0<=sea m/\sea m<=41:=by
 rcases k9 m with h | ⟨j,a,rfl⟩
 ·omega
 ·rw[pR a];omega
def pW{s:aa}{g:Nat}{k:Int}(h:k∈qu (fitN s g)):1<=k/\k<=(g:Int):=by
 obtain⟨i,hi,rfl⟩:=ch.1 h;have:=oq.1 (iU.1 hi).1;omega
def xb{g l:Bool}{dg:aa}{x:Int}(f:okY g l dg x 0){m d:aa}{z:Int×Int×Int}(h:z∈allD g dg x m d):(-10000000000000000<=z.1/\z.1<=10000000000000000)/\(0<=z.2.1/\z.2.1<=41)/\(0<=z.2.2/\z.2.2<=31):=by
 obtain⟨y,i,e⟩:=mY.1 h;have c:=mH ((kN f y).1 i);obtain⟨j,a,b,_⟩:=iY.1 e;unfold bU at c;refine⟨by omega,?_,?_⟩
 ·unfold monI at a;split at a
  ·rw[ou]at a;omega
  ·split at a
   ·rw[ou]at a;have:=KL m;omega
   ·have:=pW a;omega
 ·unfold dayI at b;split at b
  ·rw[ou]at b;omega
  ·have:=pW b;omega
def dayY(y:Int):Int:=365*y+(1+(y - 1) / 4 - (y - 1) / 100+(y - 1) / 400)
def cumM(y:Int):Nat->Int
 | 0=>0
 | k+1=>cumM y k+lenI y ((k+1:Nat):Int)
def dayM(y:Int)(m:Nat):Int:=if m<=12 then dayY y+cumM y (m - 1)else dayY (y+1)+cumM (y+1) (m - 13)
def DJ(y:Int):dayY (y+1)=dayY y+365+(if so y then 1 else 0):=by
 unfold dayY so;simp only[aw,fH,aT];split<;>omega
def iR{y:Int}(h:-20000000000000000<=y/\y<=20000000000000000):-8000000000000000000<=dayY y/\dayY y<=8000000000000000000:=by
 unfold dayY;omega
def NT(y:Int):cumM y 12=365+(if so y then 1 else 0):=by
 have e:∀k:Nat,cumM y (k+1)=cumM y k+lenI y ((k+1:Nat):Int):=λ_=>rfl;have z:cumM y 0=0:=rfl;rw[e 11,e 10,e 9,e 8,e 7,e 6,e 5,e 4,e 3,e 2,e 1,e 0,z];unfold lenI;cases so y<;>rfl
def iq(y:Int):∀k:Nat,0<=cumM y k/\cumM y k<=31*(k:Int)
 | 0=>by simp[cumM]
 | k+1=>by
  have h1:=iq y k;have h2:=gY y ((k+1:Nat):Int);show 0<=cumM y k+lenI y ((k+1:Nat):Int)/\cumM y k+lenI y ((k+1:Nat):Int)<=_;omega
def ve{y:Int}(h:bU y){m:Nat}(h2:m<=24):-8100000000000000000<=dayM y m/\dayM y m<=8100000000000000000:=by
 unfold bU at h;unfold dayM;split
 ·have:=iq y (m - 1);have:=iR (y:=y) (by omega);omega
 ·have:=iq (y+1) (m - 13);have:=iR (y:=y+1) (by omega);omega
def nQ(n:Nat){y:Int}(h:-10000000000000001<=y/\y<=10000000000000001):gP n y=some (dayY y):=by
 have a:=iR (y:=y) (by omega);unfold gP;rw[tz n (by omega),wrap_i64 (365*y) (by omega) (by omega)];show some (wrap .i64 (dayY y))=_;rw[wrap_i64 _ (by omega) (by omega)]
def nH(n:Nat){y:Int}(h:bU y):gR n y=some (dayY y,0):=by
 unfold gR;have h':=h;unfold bU at h';rw[dW,ad h,nQ n (by omega)];rfl
def zB(n:Nat){y:Int}(h:bU y){m:Nat}(hm:m<=11):∀(r j:Nat),j+r=m->∀N,r<N->au (aV n) N (y,dayY y+cumM y j,(m:Int),(j:Int))=some (dayY y+cumM y m):=by
 have h':=h;unfold bU at h';have c:=iR (y:=y) (by omega);intro r
 induction r with
 | zero=>
  intro j a N b;obtain⟨N,rfl⟩:∃k,N=k+1:=⟨N - 1,by omega⟩;obtain rfl:j=m:=by omega
  have:aV n (y,dayY y+cumM y j,(j:Int),(j:Int))=some (.inr (dayY y+cumM y j)):=by
   unfold aV;rw[aY,ab (show¬((j:Int)<(j:Int))by omega)]
  rw[au,this]
 | succ r ih=>
  intro j a N b;obtain⟨N,rfl⟩:∃k,N=k+1:=⟨N - 1,by omega⟩;have w:wrap .i64 ((j:Int)+1)=((j+1:Nat):Int):=by rw[wrap_i64 _ (by omega) (by omega)];omega
  have hc:=iq y j;have d:=gY y ((j+1:Nat):Int);have:aV n (y,dayY y+cumM y j,(m:Int),(j:Int))=some (.inl (y,dayY y+cumM y (j+1),(m:Int),((j+1:Nat):Int))):=by
   unfold aV;rw[aY,ad (show((j:Int)<(m:Int))by omega)];simp only[w,pA n h (show 1<=j+1 by omega) (show j+1<=12 by omega),ob];rw[wrap_i64 (dayY y+cumM y j+lenI y ((j+1:Nat):Int)) (by omega) (by omega),FW];rfl
  rw[au,this];exact ih (j+1) (by omega) N (by omega)
def xp(n:Nat)(a:100<n){y:Int}(h:bU y){m:Nat}(h1:1<=m)(h2:m<=12):cL n y (m:Int)=some (dayM y m,0):=by
 unfold cL;have w:wrap .i64 ((m:Int) - 1)=((m - 1:Nat):Int):=by rw[wrap_i64 _ (by omega) (by omega)];omega
 rw[BF n h h1 h2,nH n h,w];have:=zB n h (m:=m - 1) (by omega) (m - 1) 0 (by omega) n (by omega);rw[show dayY y+cumM y 0=dayY y by simp[cumM]]at this;show ob (au (aV n) n (y,dayY y,((m - 1:Nat):Int),((0:Nat):Int))) _=_;rw[this];unfold dayM;rw[ad h2];rfl
def exD(dg m d:aa)(q:Int):Bool:=!(hasX dg||(hasX m||hasX d))&&(q==0)
noncomputable def cF(x:TD):Int:=chkF x.1 x.2.1 x.2.2.1 x.2.2.2.1 x.2.2.2.2.1 x.2.2.2.2.2.1 x.2.2.2.2.2.2.1 x.2.2.2.2.2.2.2.1 x.2.2.2.2.2.2.2.2.1 x.2.2.2.2.2.2.2.2.2
def exT(x:TD):Bool:=exD x.2.2.1 x.2.2.2.2.2.1 x.2.2.2.2.2.2.1 x.2.2.2.2.1
def Ju{i:Nat}(h:i<9223372036854775807):w64 ((i:Int)+1)=((i+1:Nat):Int):=by
 show wrap .i64 _=_;rw[wrap_i64 _ (by omega) (by omega)];omega
noncomputable instance decTI:DecidableEq TI:=λa b=>Classical.propDecidable (a=b)
def okB(K:Int)(x:TD):Prop:=(K=1/\cF x=0/\exT x=true)\/((K=2\/K=3)/\x=d0)
def HT:cO 20000000=some true:=by kernel_rfl
end Go.Sh
namespace Go.Sh.Mk
open Go.Abs
def Ko(c:UInt8):wrap .u8 ((c.toNat:Nat):Int)=((c.toNat:Nat):Int):=gO _ (by omega) (by have:=c.toNat_lt;omega)
def Hy(m:aa)(l:List Int)(hl:l.length=m.length)(h18:m.length<=18)(hm:∀c∈m,okB c=true)(z:List Int):
  au (g9 20000000) 20000000 (over z 0 l,m,0)=some (cond (eX m l) (.inr ()) (.inl false)):=by
 have:=eZ (step:=g9 20000000) (λx=>x.1=over z 0 l/\x.2.1=m/\x.2.2<=m.length) (λx=>m.length - x.2.2)
  (λx=>cond (eX (m.drop x.2.2) (l.drop x.2.2)) (.inr ()) (.inl false)) ?_ 20000000 (over z 0 l,m,0) ⟨rfl,rfl,mT _⟩ (by simp only;omega)
 ·simpa using this
 rintro⟨d,b,i⟩ ⟨q1,q2,hi⟩;simp only at q1 q2 hi ⊢;subst q2 q1;rcases aA i b.length with hlt | hge
 ·obtain⟨c,hc⟩:∃c,b[i]?=some c:=⟨b[i],bN hlt⟩;obtain⟨y,hy⟩:∃c,l[i]?=some c:=⟨l[i]'(by omega),bN (by omega)⟩;have hok:=hm c (dK hc);have hb:Nat.blt i b.length=true:=dA hlt;have h128:c.toNat<128:=by
   simp only[okB,fH,bI,aw,aT]at hok;omega
  rw[gE hc,gE hy];simp only[eX,g9,hb,aj,vU hc h128];by_cases h88:c=88
  ·refine .inl ⟨(over z 0 l,b,i+1),by simp[h88],⟨rfl,rfl,by simp only;omega⟩,by simp only;omega,?_⟩;simp[h88]
  ·have e1:(((c.toNat:Nat):Int) != 88)=true:=by
    rw[bne,rG,ax h88];rfl
   have e2:(c==88)=false:=by simpa using h88
   have hg:(over z 0 l)[i]?=some y:=by rw[oI (by omega)];exact hy
   simp only[e1,e2,aj,ef (show i<18 by omega),ob,hg,Ko,vk];by_cases hcy:((c.toNat:Nat):Int)=y
   ·refine .inl ⟨(over z 0 l,b,i+1),by simp[hcy],⟨rfl,rfl,by simp only;omega⟩,by simp only;omega,?_⟩;simp[hcy]
   ·have e5:(((c.toNat:Nat):Int) != y)=true:=by simpa using hcy
    refine .inr ?_;simp only[e5,aj,ax hcy,qR,ae]
 ·have hb:Nat.blt i b.length=false:=by
   cases h:Nat.blt i b.length with
   | false=>rfl
   | true=>have:i<b.length:=az h;omega
  refine .inr ?_;simp only[g9,hb,ae];rw[nL hge];rfl
def MJ{m:aa}(hm:chk m=0)(k:Int)(h1:k<9223372036854775808):lj 20000000 m k=some (hasM m k):=by
 obtain⟨a,f,d⟩:=iy hm;have e:((0:Int) != 0)=false:=by simp
 simp only[lj,fB 20000000 m (by omega),hm,ob,e,ae,fQ,wd m.length a];unfold hasM;by_cases h0:0<=k
 ·have c:decide (k>=0)=true:=by simpa using h0
  have b:decide (0<=k)=true:=by simpa using h0
  simp only[c,b,aj,kB];by_cases h2:k<10 ^ m.length
  ·simp only[ay h2,da,ae,kB,A3 m k a h0 h1];rw[Hy m (dg m.length k) (qN _ _) a d];cases eX m (dg m.length k)<;>simp
  ·simp[ax h2]
 ·have c:decide (k>=0)=false:=by simpa using h0
  have b:decide (0<=k)=false:=by simpa using h0
  simp[c,b]
end Go.Sh.Mk
namespace Go.Sh
open Go.Abs
def BD(q i:Int):dayY (400*q+i)=146097*q+dayY i:=by
 unfold dayY;omega
def yP{a b:Int}(h:a<b):dayY a<dayY b:=by
 unfold dayY;omega
def ze{r:Int}(n:0<=r/\r<146097):∀(c lo hi:Nat),hi - lo<=c->lo<=hi->hi<=400->dayY (lo:Int)<=r->r<dayY ((hi:Int)+1)->∀N,c<N->
  ∃i:Nat,au (bC 20000000) N ((lo:Int),(hi:Int),r)=some (i:Int)/\i<=400/\dayY (i:Int)<=r/\r<dayY ((i:Int)+1):=by
 intro c
 induction c with
 | zero=>
  intro lo hi hc e b h1 h2 N l;obtain⟨N,rfl⟩:∃k,N=k+1:=⟨N - 1,by omega⟩;obtain rfl:lo=hi:=by omega
  have:bC 20000000 ((lo:Int),(lo:Int),r)=some (.inr (lo:Int)):=by
   unfold bC;rw[aY,ab (show¬((lo:Int)<(lo:Int))by omega)]
  exact⟨lo,by rw[au,this],b,h1,h2⟩
 | succ c ih=>
  intro lo hi hc e b h1 h2 N l;obtain⟨N,rfl⟩:∃k,N=k+1:=⟨N - 1,by omega⟩;by_cases j:lo<hi
  ·have hm:Int.fdiv (wrap .u64 (wrap .i64 ((lo:Int)+(hi:Int)))) (2 ^ 1)=(((lo+hi) / 2:Nat):Int):=by
    rw[wrap_i64 _ (by omega) (by omega),gG _ (by omega) (by omega),Ja _ (by omega)];omega
   generalize f:(lo+hi) / 2=m at hm;have m1:lo<=m/\m<hi:=by omega
   have h:wrap .i64 ((m:Nat):Int)=(m:Int):=wrap_i64 _ (by omega) (by omega);have a:wrap .i64 ((m:Int)+1)=((m+1:Nat):Int):=by rw[wrap_i64 _ (by omega) (by omega)];omega
   have g:na 20000000 (m:Int) r=some (decide (dayY ((m:Int)+1)>r)):=by
    unfold na;rw[a,nQ 20000000 (by omega)];show some (decide (dayY ((m+1:Nat):Int)>r))=_;rw[show((m+1:Nat):Int)=(m:Int)+1 by omega]
   by_cases d:dayY ((m:Int)+1)>r
   ·have:bC 20000000 ((lo:Int),(hi:Int),r)=some (.inl ((lo:Int),(m:Int),r)):=by
     unfold bC;rw[aY,ad (show((lo:Int)<(hi:Int))by omega)];simp only[hm,h,g,ob,ay d,da,ae]
    rw[au,this];exact ih lo m (by omega) (by omega) (by omega) h1 d N (by omega)
   ·have:bC 20000000 ((lo:Int),(hi:Int),r)=some (.inl (((m+1:Nat):Int),(hi:Int),r)):=by
     unfold bC;rw[aY,ad (show((lo:Int)<(hi:Int))by omega)];simp only[hm,h,g,ob,ax d,dU,aj,a]
    rw[au,this];exact ih (m+1) hi (by omega) (by omega) b (by rw[show((m+1:Nat):Int)=(m:Int)+1 by omega];omega) h2 N (by omega)
  ·obtain rfl:lo=hi:=by omega
   have:bC 20000000 ((lo:Int),(lo:Int),r)=some (.inr (lo:Int)):=by
    unfold bC;rw[aY,ab (show¬((lo:Int)<(lo:Int))by omega)]
   exact⟨lo,by rw[au,this],b,h1,h2⟩
def yW{y day:Int}(h:bU y)(h1:dayY y<=day)(h2:day<dayY (y+1)):rN 20000000 day=some (y,0):=by
 have h':=h;unfold bU at h';have w:=iR (y:=y) (by omega);have s:=iR (y:=y+1) (by omega);have r:-4000000000000000000<=day/\day<=4000000000000000000:=by
  unfold dayY at h1 h2;omega
 have n:dayY 0=0:=rfl;have j:dayY 401=146463:=rfl;have f:0<=day%146097/\day%146097<146097:=by omega
 obtain⟨i,m,u,v,t⟩:=ze f 400 0 400 (by omega) (by omega) (by omega) (by rw[show((0:Nat):Int)=0 from rfl,n];omega) (by rw[show((400:Nat):Int)+1=401 from rfl,j];omega) 20000000 (by omega);have c:y=400*(day / 146097)+(i:Int):=by
  have p:=BD (day / 146097) (i:Int);have q:=BD (day / 146097) ((i:Int)+1);have o:=Int.emod_add_mul_ediv day 146097;rcases Int.lt_trichotomy y (400*(day / 146097)+(i:Int))with l | d | g
  ·have:=yP (a:=y+1) (b:=400*(day / 146097)+(i:Int)+1) (by omega);have e:dayY (y+1)<=dayY (400*(day / 146097)+(i:Int)):=by
    rcases ER (show y+1<=400*(day / 146097)+(i:Int)by omega)with h | h
    ·exact wZ (yP h)
    ·rw[h];exact kg _
   omega
  ·exact d
  ·have e:dayY (400*(day / 146097)+((i:Int)+1))<=dayY y:=by
    rcases ER (show 400*(day / 146097)+((i:Int)+1)<=y by omega)with h | h
    ·exact wZ (yP h)
    ·rw[h];exact kg _
   omega
 unfold rN;rw[qG 20000000 (by omega) (by omega) (by omega) (by omega),Iw 20000000 (by omega) (by omega)];simp only[ob];have k:lz 20000000 400 (day%146097)=some (i:Int):=by
  unfold lz;rw[show au (bC 20000000) 20000000 (0,400,day%146097)=some (i:Int)from m];rfl
 rw[k];simp only[];rw[wrap_i64 (400*(day / 146097)) (by omega) (by omega),wrap_i64 _ (by omega) (by omega),<-c,dW,ad h];rfl
def H7{y:Int}(h:bU y){m:Nat}(h1:1<=m)(h2:m<=12){k:Int}(k0:0<=k)(k1:k<lenI y (m:Int)):∀(r j:Nat),j+r+1=m->∀N,r<N->
  au (eD 20000000) N (y,cumM y (m - 1) - cumM y j+k,(j:Int))=some (.inl (y,(m:Int),0)):=by
 intro r
 induction r with
 | zero=>
  intro j f N n;obtain⟨N,rfl⟩:∃k,N=k+1:=⟨N - 1,by omega⟩;obtain rfl:m=j+1:=by omega
  have w:wrap .i64 ((j:Int)+1)=((j+1:Nat):Int):=by rw[wrap_i64 _ (by omega) (by omega)];omega
  have:eD 20000000 (y,cumM y (j+1 - 1) - cumM y j+k,(j:Int))=some (.inr (.inl (y,((j+1:Nat):Int),0))):=by
   unfold eD;rw[aY,ad (show((j:Int)<12)by omega)];simp only[w,pA 20000000 h (show 1<=j+1 by omega) h2,ob];rw[aY,ad (show cumM y (j+1 - 1) - cumM y j+k<lenI y ((j+1:Nat):Int)by rw[show j+1 - 1=j from rfl];omega)]
  rw[au,this]
 | succ r ih=>
  intro j f N n;obtain⟨N,rfl⟩:∃k,N=k+1:=⟨N - 1,by omega⟩;have w:wrap .i64 ((j:Int)+1)=((j+1:Nat):Int):=by rw[wrap_i64 _ (by omega) (by omega)];omega
  have hc:=iq y j;have c:=iq y (m - 1);have g:=iq y (j+1);have i:cumM y (j+1)=cumM y j+lenI y ((j+1:Nat):Int):=rfl;have a:∀d,cumM y (j+1)<=cumM y (j+1+d):=by
   intro d
   induction d with
   | zero=>exact kg _
   | succ d l=>
    have:=gY y ((j+1+d+1:Nat):Int);have e:cumM y (j+1+(d+1))=cumM y (j+1+d)+lenI y ((j+1+d+1:Nat):Int):=rfl;omega
  have b:=a (m - 1 - (j+1));rw[show j+1+(m - 1 - (j+1))=m - 1 by omega]at b;have o:=gY y (m:Int);have:eD 20000000 (y,cumM y (m - 1) - cumM y j+k,(j:Int))=some (.inl (y,cumM y (m - 1) - cumM y (j+1)+k,((j+1:Nat):Int))):=by
   unfold eD;rw[aY,ad (show((j:Int)<12)by omega)];simp only[w,pA 20000000 h (show 1<=j+1 by omega) (show j+1<=12 by omega),ob];rw[aY,ab (show¬cumM y (m - 1) - cumM y j+k<lenI y ((j+1:Nat):Int)by omega),wrap_i64 _ (by omega) (by omega)];rw[show cumM y (m - 1) - cumM y j+k - lenI y ((j+1:Nat):Int)=cumM y (m - 1) - cumM y (j+1)+k by omega]
  rw[au,this];exact ih (j+1) (by omega) N (by omega)
def JM{y:Int}{m:Nat}(h1:1<=m)(h2:m<=12){k:Int}(k0:0<=k)(k1:k<lenI y (m:Int)):dayY y<=dayM y m+k/\dayM y m+k<dayY (y+1):=by
 have hc:=iq y (m - 1);have e:dayM y m=dayY y+cumM y (m - 1):=by unfold dayM;rw[ad h2]
 have c:=NT y;have g:=DJ y;have a:∀d,cumM y m<=cumM y (m+d):=by
  intro d
  induction d with
  | zero=>exact kg _
  | succ d f=>
   have:=gY y ((m+d+1:Nat):Int);have e:cumM y (m+(d+1))=cumM y (m+d)+lenI y ((m+d+1:Nat):Int):=rfl;omega
 have b:=a (12 - m);rw[show m+(12 - m)=12 by omega]at b;have h:cumM y m=cumM y (m - 1)+lenI y (m:Int):=by
  obtain⟨j,rfl⟩:∃j,m=j+1:=⟨m - 1,by omega⟩;rfl
 omega
def Nr{y:Int}(h:bU y){m:Nat}(h1:1<=m)(h2:m<=12){k:Int}(k1:1<=k)(k2:k<=lenI y (m:Int)):ks 20000000 (dayM y m+k - 1)=some (y,(m:Int),k,0):=by
 have d:=JM (y:=y) h1 h2 (k:=k - 1) (by omega) (by omega);have i:=gY y (m:Int);have f:=ve h (m:=m) (by omega);have h':=h;unfold bU at h';have g:=iR (y:=y) (by omega);have hc:=iq y (m - 1);have e:dayM y m=dayY y+cumM y (m - 1):=by unfold dayM;rw[ad h2]
 have b:=yW h (day:=dayM y m+k - 1) (by omega) (by omega);have a:=H7 h h1 h2 (k:=k - 1) (by omega) (by omega) (m - 1) 0 (by omega) 20000000 (by omega);have c:pu 20000000 (dayM y m+k - 1)=some (y,(m:Int),0):=by
  unfold pu;rw[b];simp only[ob,ek,ae,nH 20000000 h];rw[wrap_i64 _ (by omega) (by omega),show dayM y m+k - 1 - dayY y=cumM y (m - 1) - cumM y 0+(k - 1)by rw[show cumM y 0=0 from rfl];omega];rw[show au (eD 20000000) 20000000 (y,cumM y (m - 1) - cumM y 0+(k - 1),0)=some (.inl (y,(m:Int),0))from a]
 unfold ks;rw[c];simp only[ob,ek,ae,xp 20000000 (by omega) h h1 h2];rw[wrap_i64 (dayM y m+k - 1 - dayM y m) (by omega) (by omega),wrap_i64 _ (by omega) (by omega),show dayM y m+k - 1 - dayM y m+1=k by omega]
def sR{y:Int}(h:bU y){m:Nat}(h1:1<=m)(h2:m<=12){k:Int}(k1:1<=k)(k2:k<=lenI y (m:Int)):dS 20000000 y (m:Int) k=some 0:=by
 unfold dS;rw[FI 20000000 h h1 h2];simp only[ob,ek,ae];rw[ax (show¬k<1 by omega),ax (show¬k>lenI y (m:Int)by omega)];rfl
def Jt{y:Int}(h:bU y){m:Nat}(h1:1<=m)(h2:m<=12){k:Int}(k1:1<=k)(k2:k<=lenI y (m:Int)):gV 20000000 y (m:Int) k=some (dayM y m+k - 1,0):=by
 have b:=gY y (m:Int);have a:=ve h (m:=m) (by omega);unfold gV;rw[sR h h1 h2 k1 k2];simp only[ob,ek,ae,xp 20000000 (by omega) h h1 h2];rw[wrap_i64 (dayM y m+k) (by omega) (by omega),wrap_i64 _ (by omega) (by omega)]
def qh(l:aa):∀n:Nat,(Lib.repeatL l n).length=l.length*n
 | 0=>by simp[Lib.repeatL]
 | n+1=>by
  rw[Lib.repeatL,cR,qh l n,Nat.mul_succ];omega
def ud{l:aa}(d:l.length<=30){n:Int}(b:0<=n/\n<=4):∃s,dn 20000000 l n=some s/\s.length<=34:=by
 have w:wrap .i64 (n - ((List.length l:Nat):Int))=n - (l.length:Int):=wrap_i64 _ (by omega) (by omega);unfold dn;rw[w];obtain⟨c,hc,c4⟩:∃c:Nat,(cond (decide (n - (l.length:Int)>0)) (n - (l.length:Int)) 0)=(c:Int)/\c<=4:=by
  by_cases h:n - (l.length:Int)>0
  ·exact⟨(n - (l.length:Int)).toNat,by rw[ay h,aj];omega,by omega⟩
  ·exact⟨0,by rw[ax h,ae];rfl,by omega⟩
 rw[hc];have a:EH ([48]:aa) (c:Int)=true:=by
  unfold EH;rw[ay (show(0:Int)<=(c:Int)by omega),ay (show(c:Int)<=9223372036854775807 by omega),cc];exact dA (by simp;omega)
 rw[a,aj,cc,oG (by rw[qh];simp;omega)];exact⟨_,rfl,by rw[cR,qh];simp;omega⟩
def yO{n:Int}(h:-9223372036854775808<=n/\n<=9223372036854775807):jo 20000000 n=some (Lib.itoa n)/\(Lib.itoa n).length<=21:=by
 refine⟨?_,Lib.itoa_length_le n h.1 h.2⟩;unfold jo HE;rw[ay h.1,ay h.2];rfl
def DY(l:aa)(a:l.length<=30):∃t b,fZ 20000000 l=some (t,b)/\t.length<=30:=by
 unfold fZ dV bY;by_cases h:((List.length l:Nat):Int)>=1
 ·have c:bx l.length (1:Int)=some 1:=ge (i:=1) (by omega);rw[ay h,aj,c];simp only[ob];cases((List.drop 0 (List.take 1 l))==([45]:aa))
  ·exact⟨l,false,rfl,a⟩
  ·exact⟨_,true,rfl,by simp;omega⟩
 ·rw[ax h];exact⟨l,false,rfl,a⟩
def GQ{y:Int}(h:bU y){m:Nat}(h1:1<=m)(h2:m<=12){k:Int}(k1:1<=k)(k2:k<=lenI y (m:Int)):∃s,gK 20000000 y (m:Int) k=some (s,0)/\0<s.length:=by
 have x:=gY y (m:Int);have h':=h;unfold bU at h';obtain⟨i,v⟩:=yO (n:=y) (by omega);obtain⟨q,a⟩:=yO (n:=(m:Int)) (by omega);obtain⟨e,p⟩:=yO (n:=k) (by omega);obtain⟨u,b,c,t⟩:=DY (Lib.itoa y) (by omega);obtain⟨A,f,g⟩:=ud t (n:=4) (by omega);obtain⟨w,d,o⟩:=ud (l:=Lib.itoa (m:Int)) (by omega) (n:=2) (by omega);obtain⟨z,r,j⟩:=ud (l:=Lib.itoa k) (by omega) (n:=2) (by omega);unfold gK;rw[sR h h1 h2 k1 k2];simp only[ob,ek,ae,i,q,e,c,f,d,r];cases b
 ·simp only[ae]
  repeat (first | rw[oG (by simp only[cR,bp,cP];omega)] | simp only[])
  exact⟨_,rfl,by simp only[cR,bp,cP];omega⟩
 ·simp only[aj]
  repeat (first | rw[oG (by simp only[cR,bp,cP];omega)] | simp only[])
  exact⟨_,rfl,by simp only[cR,bp,cP];omega⟩
def cmpI(a b:Int):Int:=if a<b then -1 else if a>b then 1 else 0
def zC(n:Nat)(a b:Int):ep n a b=some (cmpI a b)/\fL n a b=some (cmpI a b):=by
 have e:∀x:Int,(x != x)=false:=λx=>by simp
 constructor
 ·unfold ep ip cmpI;rw[e,e];simp only[ob,ae];by_cases h1:a<b
  ·rw[ay h1,ad h1];rfl
  ·rw[ax h1,ab h1];by_cases h2:a>b
   ·rw[ay h2,ad h2];rfl
   ·rw[ax h2,ab h2];rfl
 ·unfold fL jN cmpI;rw[e,e];simp only[ob,ae];by_cases h1:a<b
  ·rw[ay h1,ad h1];rfl
  ·rw[ax h1,ab h1];by_cases h2:a>b
   ·rw[ay h2,ad h2];rfl
   ·rw[ax h2,ab h2];rfl
def JF(l:List Int)(e:l.length<=10):∀(r i:Nat),i+r=l.length->∀N,r<N->au (cJ 20000000) N (0,((l.length:Nat):Int),(i:Int),l)=some (match(l.drop i).find? (λx=>x != 0)with | some x=>.inl x | none=>.inr 0):=by
 intro r
 induction r with
 | zero=>
  intro i hi N d;obtain⟨N,rfl⟩:∃k,N=k+1:=⟨N - 1,by omega⟩;obtain rfl:i=l.length:=by omega
  have:cJ 20000000 (0,((l.length:Nat):Int),((l.length:Nat):Int),l)=some (.inr (.inr 0)):=by
   unfold cJ;rw[aY,ab (show¬((l.length:Nat):Int)<((l.length:Nat):Int)by omega)]
  rw[au,this,fS9];rfl
 | succ r ih=>
  intro i hi N d;obtain⟨N,rfl⟩:∃k,N=k+1:=⟨N - 1,by omega⟩;have a:i<l.length:=by omega
  have b:l[i]?=some l[i]:=bN a;rw[sw a];generalize l[i]=x at b;rw[Bn];have w:wrap .i64 ((i:Int)+1)=((i+1:Nat):Int):=by rw[wrap_i64 _ (by omega) (by omega)];omega
  by_cases h:x=0
  ·have:cJ 20000000 (0,((l.length:Nat):Int),(i:Int),l)=some (.inl (0,((l.length:Nat):Int),((i+1:Nat):Int),l)):=by
    unfold cJ;rw[aY,ad (show(i:Int)<((l.length:Nat):Int)by omega)];simp only[ef a,ob,b,h,ek,ae,w]
   rw[au,this,h];simp only[ek];exact ih (i+1) (by omega) N (by omega)
  ·have c:(x != 0)=true:=bne_iff_ne.2 h;have:cJ 20000000 (0,((l.length:Nat):Int),(i:Int),l)=some (.inr (.inl x)):=by
    unfold cJ;rw[aY,ad (show(i:Int)<((l.length:Nat):Int)by omega)];simp only[ef a,ob,b,c,aj]
   rw[au,this,c]
def G1{k:Nat}{a b:Int×Int×Int}(h:cmpC k a b<0):∃v,dt 20000000 a.1 a.2.1 a.2.2 b.1 b.2.1 b.2.2=some v/\v<0:=by
 have d:li 20000000 [cmpI a.1 b.1,cmpI a.2.1 b.2.1,cmpI a.2.2 b.2.2]=some (match([cmpI a.1 b.1,cmpI a.2.1 b.2.1,cmpI a.2.2 b.2.2]:List Int).find? (λx=>x != 0)with | some x=>x | none=>0):=by
  have:=JF [cmpI a.1 b.1,cmpI a.2.1 b.2.1,cmpI a.2.2 b.2.2] (by simp) 3 0 rfl 20000000 (by omega);rw[iE]at this;unfold li;rw[show au (cJ 20000000) 20000000 (0,((([cmpI a.1 b.1,cmpI a.2.1 b.2.1,cmpI a.2.2 b.2.2]:List Int).length:Nat):Int),0,[cmpI a.1 b.1,cmpI a.2.1 b.2.1,cmpI a.2.2 b.2.2])=_ from this];cases([cmpI a.1 b.1,cmpI a.2.1 b.2.1,cmpI a.2.2 b.2.2]:List Int).find? (λx=>x != 0)<;>rfl
 refine⟨match([cmpI a.1 b.1,cmpI a.2.1 b.2.1,cmpI a.2.2 b.2.2]:List Int).find? (λx=>x != 0)with | some x=>x | none=>0,?_,?_⟩
 ·unfold dt;rw[(zC _ _ _).1,(zC _ _ _).2,(zC _ _ _).2];simp only[ob];rw[d]
 ·have e:∀{x y:Int},x<y->cmpI x y=-1:=λh=>by unfold cmpI;rw[ad h]
  have c:∀{x y:Int},x=y->cmpI x y=0:=λh=>by unfold cmpI;rw[ab (by omega),ab (by omega)]
  rcases iV.1 h with h1 | ⟨h1,_,h2 | ⟨h2,_,f⟩⟩
  ·rw[e h1];simp
  ·rw[c h1,e h2];simp
  ·rw[c h1,c h2,e f];simp
def xT{g l:Bool}{dg:aa}{x:Int}{m d:aa}(R:RightF g l dg x m d){z:Int×Int×Int}(h:z∈allD g dg x m d):inP g dg x 0 z.1/\(m=[]->z.2.1=0)/\(d=[]->z.2.2=0)/\(d≠[]->(1<=z.2.1/\z.2.1<=12)/\1<=z.2.2/\z.2.2<=lenI z.1 z.2.1):=by
 obtain⟨y,j,f⟩:=mY.1 h;obtain⟨i,c,a,e⟩:=iY.1 f;subst i;refine⟨(kN R.ok _).1 j,λhm=>?_,λb=>?_,λb=>?_⟩
 ·unfold monI at c;rw[ad hm,ou]at c;exact c
 ·unfold dayI at a;rw[ad b,ou]at a;exact a
 ·have k:=R.mos.2 b _ c;unfold dayI at a;rw[ab b]at a;unfold jk at e;rw[ab b]at e;have n:=pW a;exact⟨k,n.1,e⟩
section
variable {g l:Bool} {dg:List UInt8} {x:Int} {m d:List UInt8} {k0 k1 k2:Int} (hml:m.length<=18) (hdl:dg.length<=100) (h0:0<=k0) (h1:0<=k1) (h2:0<=k2)
include hml hdl h0 h1 h2
def Jx(s:errF g l dg x 0 m d k0 k1 k2=0){w:Int}{i:Nat}(E:i<50)(F:(i:Int)<Int.tmod (w64 w) (((allD g dg x m d).length:Nat):Int))(I:0<(allD g dg x m d).length){a b:Int×Int×Int}
  (sm:(-10000000000000000<=a.1/\a.1<=10000000000000000)/\(0<=a.2.1/\a.2.1<=41)/\(0<=a.2.2/\a.2.2<=31)) (H:m=[]->a.2.1=0) (r:d=[]->a.2.2=0)
  (e:∃v,dt 20000000 a.1 a.2.1 a.2.2 b.1 b.2.1 b.2.2=some v/\v<0) (c:(allD g dg x m d).find? (seen true (bH m d) (bhd (bH m d) a 1))=some b):
  aO 20000000 (w,(((allD g dg x m d).length:Nat):Int),(i:Int),(g,l,dg,x,0,m,d,k0,k1,k2),a.1,a.2.1,a.2.2) =
   some (.inl (w,(((allD g dg x m d).length:Nat):Int),((i+1:Nat):Int),(g,l,dg,x,0,m,d,k0,k1,k2),b.1,b.2.1,b.2.2)):=by
 obtain⟨_,R⟩:=ew s;have q:=λ(p A D:Int) (h:-9223372036854775808<=p/\p<9223372036854775808)=>Is hml hdl h0 h1 h2 s p A D h;obtain⟨v,n,y⟩:=e;obtain⟨⟨M,O⟩,⟨L,K⟩,J,N⟩:=sm;have G:w64 (a.2.2+1)=a.2.2+1:=wrap_i64 _ (by omega) (by omega);have B:w64 (a.2.1+1)=a.2.1+1:=wrap_i64 _ (by omega) (by omega);have u:w64 (a.1+1)=a.1+1:=wrap_i64 _ (by omega) (by omega);have o:w64 ((i:Int)+1)=((i+1:Nat):Int):=Ju (by omega);have C:=q a.1 a.2.1 (a.2.2+1) (by omega);have z:=q a.1 (a.2.1+1) 0 (by omega);have t:=q (a.1+1) 0 0 (by omega);unfold aO;simp only[u7,u6,u5,u4,u3,u2,G,B,u];rw[show((((allD g dg x m d).length:Nat):Int)==0)=false from bA.2 (by omega),ay F,ay (show(i:Int)<50 by omega)];show cond false none (cond true (cond true (ob (bD 20000000 g l dg x 0 m d k0 k1 k2 a.1 a.2.1 (a.2.2+1)) _) _) _)=_;rw[C];simp only[ae,aj,ob];unfold bhd at c;by_cases j:d=[]
 ·have k:(d==([]:aa))=true:=by rw[j];rfl
  show cond (d==[]) (ob (bD 20000000 g l dg x 0 m d k0 k1 k2 a.1 (a.2.1+1) 0) _) _=_;rw[k,aj,z];simp only[ob];by_cases hm:m=[]
  ·have f:(m==([]:aa))=true:=by rw[hm];rfl
   show cond (m==[]) (ob (bD 20000000 g l dg x 0 m d k0 k1 k2 (a.1+1) 0 0) _) _=_;rw[f,aj,t];have hc:bH m d=1:=by rw[hm,j];rfl
   rw[ad hc,H hm,r j]at c;rw[c];simp only[ob,outN,Option.elim,u5,u4,u3,u2,d4,ek,ae,da,n];rw[ax (show¬v>=0 by omega),o];rfl
  ·have f:(m==([]:aa))=false:=cj hm;show cond (m==[]) _ _=_;rw[f,ae];have hc:bH m d=2:=by
    unfold bH;rw[f,k];rfl
   rw[ab (by omega),ad hc,r j]at c;rw[c];simp only[outN,Option.elim,u5,u4,u3,u2,d4,ek,ae,da,n];rw[ax (show¬v>=0 by omega),o];rfl
 ·have k:(d==([]:aa))=false:=cj j;have hm:m≠[]:=R.dm j;have f:(m==([]:aa))=false:=cj hm;show cond (d==[]) _ (cond (m==[]) _ _)=_;rw[k,f,ae,ae];have hc:bH m d=3:=by
   unfold bH;rw[f,k];rfl
  rw[ab (by omega),ab (by omega)]at c;rw[c];simp only[outN,Option.elim,u5,u4,u3,u2,d4,ek,ae,da,n];rw[ax (show¬v>=0 by omega),o];rfl
def Jm(he:errF g l dg x 0 m d k0 k1 k2=0){w:Int}{i:Nat}{n:Nat}(hn:n=(allD g dg x m d).length)(hi:i+1<n)(h50:i<50)(hw:(i:Int)<Int.tmod (w64 w) (n:Int)):
  aO 20000000 (w,(n:Int),(i:Int),(g,l,dg,x,0,m,d,k0,k1,k2),((allD g dg x m d)[i]'(by omega)).1,((allD g dg x m d)[i]'(by omega)).2.1,((allD g dg x m d)[i]'(by omega)).2.2) =
   some (.inl (w,(n:Int),((i+1:Nat):Int),(g,l,dg,x,0,m,d,k0,k1,k2),((allD g dg x m d)[i+1]'(by omega)).1,((allD g dg x m d)[i+1]'(by omega)).2.1,((allD g dg x m d)[i+1]'(by omega)).2.2)):=by
 subst hn;obtain⟨_,R⟩:=ew he;have hal:=rD R.ok m d;have hk:=tN m d;have hs:=CG (g:=g) (dg:=dg) (x:=x) R.dm;have hmem:(allD g dg x m d)[i]∈allD g dg x m d:=AE _;have sm:=xb R.ok hmem;have pt:=xT R hmem;have hless:=G1 (ru hs (show i<i+1 by omega) hi);have hfind:=BI (xL ⟨hk.1,hk.2⟩ hs (show i<(allD g dg x m d).length by omega));rw[bN hi]at hfind;exact Jx hml hdl h0 h1 h2 he h50 hw (by omega) sm pt.2.1 pt.2.2.1 hless hfind
def JA(he:errF g l dg x 0 m d k0 k1 k2=0){w:Nat}(hw:w<65536){n:Nat}(hn:n=(allD g dg x m d).length)(hp:0<n):∃z∈allD g dg x m d,
  au (aO 20000000) 20000000 ((w:Int),(n:Int),0,(g,l,dg,x,0,m,d,k0,k1,k2),((allD g dg x m d)[0]'(by omega)).1,((allD g dg x m d)[0]'(by omega)).2.1,((allD g dg x m d)[0]'(by omega)).2.2) =
   some (.inr ((g,l,dg,x,0,m,d,k0,k1,k2),z.1,z.2.1,z.2.2)):=by
 have hT:Int.tmod (w64 (w:Int)) (n:Int)=((w%n:Nat):Int):=by
  rw[show w64 (w:Int)=(w:Int)from wrap_i64 _ (by omega) (by omega)];rfl
 have hmod:=mB w hp;obtain⟨_,R⟩:=ew he;have hal:=rD R.ok m d
 have hstop:∀i:Nat,(hi:i<n)->¬(i<w%n/\i<50)->aO 20000000 ((w:Int),(n:Int),(i:Int),(g,l,dg,x,0,m,d,k0,k1,k2),((allD g dg x m d)[i]'(by omega)).1,((allD g dg x m d)[i]'(by omega)).2.1,((allD g dg x m d)[i]'(by omega)).2.2) =
   some (.inr (.inr ((g,l,dg,x,0,m,d,k0,k1,k2),((allD g dg x m d)[i]'(by omega)).1,((allD g dg x m d)[i]'(by omega)).2.1,((allD g dg x m d)[i]'(by omega)).2.2))):=by
  intro i hi hs;unfold aO;simp only[u7,u6,u5,u4,u3,u2];rw[show((n:Int)==0)=false from bA.2 (by omega),hT,ae];by_cases h1:i<w%n
  ·rw[ay (show(i:Int)<((w%n:Nat):Int)by omega),ax (show¬(i:Int)<50 by omega)];rfl
  ·rw[ax (show¬(i:Int)<((w%n:Nat):Int)by omega)];rfl
 have run:∀(r i:Nat) (hi:i<n),60 - i<=r->∀N,r<N->∃z∈allD g dg x m d,
   au (aO 20000000) N ((w:Int),(n:Int),(i:Int),(g,l,dg,x,0,m,d,k0,k1,k2),((allD g dg x m d)[i]'(by omega)).1,((allD g dg x m d)[i]'(by omega)).2.1,((allD g dg x m d)[i]'(by omega)).2.2) =
    some (.inr ((g,l,dg,x,0,m,d,k0,k1,k2),z.1,z.2.1,z.2.2)):=by
  intro r
  induction r with
  | zero=>
   intro i hi hr N hN;obtain⟨N,rfl⟩:∃k,N=k+1:=⟨N - 1,by omega⟩;exact⟨_,AE (show i<(allD g dg x m d).length by omega),by rw[au,hstop i hi (by omega)]⟩
  | succ r ih=>
   intro i hi hr N hN;obtain⟨N,rfl⟩:∃k,N=k+1:=⟨N - 1,by omega⟩;by_cases hs:i<w%n/\i<50
   ·rw[au,Jm hml hdl h0 h1 h2 he hn (show i+1<n by omega) hs.2 (by rw[hT];omega)];exact ih (i+1) (by omega) (by omega) N (by omega)
   ·exact⟨_,AE (show i<(allD g dg x m d).length by omega),by rw[au,hstop i hi hs]⟩
 exact run 60 0 hp (by omega) 20000000 (by omega)
end
def Lr{y:Int}(h:-10000000000000000<=y/\y<=10000000000000000):cond (decide ((w64 (0 - y))>y)) (w64 (0 - y)) y=if y<0 then -y else y:=by
 have w:w64 (0 - y)=-y:=by
  show wrap .i64 (0 - y)=_;rw[wrap_i64 _ (by omega) (by omega)];omega
 rw[w];by_cases a:y<0
 ·rw[ay (show -y>y by omega),ad a];rfl
 ·rw[ax (show¬-y>y by omega),ab a];rfl
def Hg{g l:Bool}{dg:aa}{x:Int}(a:okY g l dg x 0)(c:hasX dg=true){y:Int}(d:inP g dg x 0 y)(e:-10000000000000000<=y/\y<=10000000000000000):
  lj 20000000 dg (cond (decide ((w64 (0 - y))>y)) (w64 (0 - y)) y)=some true:=by
 obtain⟨_,_,_,i,h⟩:=mm a c;have hm:=rl i h;obtain⟨h1,h2⟩:=(rC a c y).1 d;have b:=(Mk.kq h1).2.2.2.2.1;have f:cond (decide ((w64 (0 - y))>y)) (w64 (0 - y)) y=wOf g y:=by
  rw[Lr e];unfold wOf at b ⊢;split at b<;>split<;>first | omega | rfl
 rw[f,Mk.MJ hm _ (by unfold wOf;split<;>omega),h1]
def J7{y:Int}(h:bU y){a k:Int}(hm:1<=a/\a<=12)(b:1<=k/\k<=lenI y a):
  dS 20000000 y a k=some 0/\∃D,gV 20000000 y a k=some (D,0)/\ks 20000000 D=some (y,a,k,0)/\∃s,gK 20000000 y a k=some (s,0)/\0<s.length:=by
 obtain⟨m,rfl⟩:∃m:Nat,a=(m:Int):=⟨a.toNat,by omega⟩;exact⟨sR h (by omega) (by omega) b.1 b.2,_,Jt h (by omega) (by omega) b.1 b.2,Nr h (by omega) (by omega) b.1 b.2,GQ h (by omega) (by omega) b.1 b.2⟩
def ug(a0 A Q B L v J N t w:Nat)(g:Bool)(h2:A<65536)(h3:Q<256)(h4:B<256)(h5:L<256)(h6:v<256)(h7:J<256)(h8:N<256)(h9:t<256)(hw:w<65536):
  cY 20000000 (a0:Int) g (A:Int) (Q:Int) (B:Int) (L:Int) (v:Int) (J:Int) (N:Int) (t:Int) (w:Int)=some true:=by
 obtain⟨b,l,dg,x,q,f,d,k0,k1,k2,e,hc,p,hf⟩:=LX 19999700 a0 A Q B L v J N t g h2 h3 h4 h5 h6 h7 h8 h9;rw[show 19999700+300=20000000 from rfl]at e;have hml:f.length<=18:=by
  rcases p.mon with h | h
  ·rw[h];simp
  ·omega
 have hdl:dg.length<=100:=by have:=p.dg17;omega
 have k:(0:Int)<=((k0:Nat):Int):=by omega
 have o:(0:Int)<=((k1:Nat):Int):=by omega
 have m:(0:Int)<=((k2:Nat):Int):=by omega
 have i:=GY hc hf;have c:=HT;unfold cY;generalize cO 20000000=LV at *;rw[e];simp only[ob,u2,u4,u3];by_cases hq:0<((q:Nat):Int)
 ·rw[ad hq]at i;obtain⟨cv,n⟩:=yq (g:=b) (l:=l) (x:=(x:Int)) (q:=(q:Int)) (d:=d) hml hdl k o m;obtain⟨fa,fb,fc,a⟩:=GV (g:=b) (l:=l) (x:=(x:Int)) (q:=(q:Int)) (d:=d) hml hdl k o m;rw[i]at n a;have n:ap10 (bg 20000000) (b,l,dg,(x:Int),(q:Int),f,d,(k0:Int),(k1:Int),(k2:Int))=_:=n;have a:ap10 (dp 20000000) (b,l,dg,(x:Int),(q:Int),f,d,(k0:Int),(k1:Int),(k2:Int))=_:=a;rw[n];simp only[u2];rw[a];simp only[u4,u3,u2,c];rw[show decide ((d4 ((b,l,dg,(x:Int),(q:Int),f,d,(k0:Int),(k1:Int),(k2:Int)):TD)).1>0)=true from ay hq];rfl
 ·rw[ab hq]at i;obtain⟨W,R⟩:=ew i;simp only[W]at i ⊢;have hne:=LQ i;have hal:=rD R.ok f d;have hp:0<(allD b dg (x:Int) f d).length:=List.length_pos_iff.2 hne;have n:ap10 (bg 20000000) (b,l,dg,(x:Int),0,f,d,(k0:Int),(k1:Int),(k2:Int))=_:=Eo hml hdl k o m i;have a:ap10 (dp 20000000) (b,l,dg,(x:Int),0,f,d,(k0:Int),(k1:Int),(k2:Int))=_:=FM hml hdl k o m i;rw[bN hp]at a;obtain⟨z,O,hl⟩:=JA hml hdl k o m i hw rfl hp;have sm:=xb R.ok O;have C:=xT R O;have u:-9223372036854775808<=z.1/\z.1<9223372036854775808:=by omega
  have hH:ap10 (eG 20000000) (b,l,dg,(x:Int),0,f,d,(k0:Int),(k1:Int),(k2:Int)) z.1 z.2.1 z.2.2=some true:=by
   have:=J9 hml hdl k o m i z.1 z.2.1 z.2.2 u;rw[mf.2 ⟨z,O,ay (vH _ _)⟩]at this;exact this
  have hM:=kY 20000000 b l dg (x:Int) 0;have hY:=λM=>Hg R.ok M C.1 sm.1;have U:=mH C.1;rw[n];simp only[u2];rw[a];simp only[outE,Option.elim,u4,u3,u2];rw[show decide ((d4 ((b,l,dg,(x:Int),0,f,d,(k0:Int),(k1:Int),(k2:Int)):TD)).1>0)=false from rfl,ae,ek,ae,ae];rw[ax (show¬(((allD b dg (x:Int) f d).length:Nat):Int)<1 by omega),ae];rw[hl];have j:(cond ((d4 ((b,l,dg,(x:Int),0,f,d,(k0:Int),(k1:Int),(k2:Int)):TD)).2.2.1==([]:aa)) (ob LV λy=>(some y)) (ob (gV 20000000 z.1 z.2.1 z.2.2) (u2 λS v29=>(ob (ks 20000000 S) (u4 λI H E F=>(ob (gK 20000000 z.1 z.2.1 z.2.2) (u2 λG P=>(ob (dS 20000000 z.1 z.2.1 z.2.2) λT=>(cond (T==0) (cond (v29==0) (cond (F==0) (cond (P==0) (cond ((I==z.1)&&((H==z.2.1)&&((E==z.2.2)&&true))) (cond (decide ((len G)>0)) (ob (ap10 (eG 20000000) (b,l,dg,(x:Int),0,f,d,(k0:Int),(k1:Int),(k2:Int)) z.1 z.2.1 z.2.2) λK=>(cond K (ob LV λY=>(some Y)) (some false))) (some false)) (some false)) (some false)) (some false)) (some false)) (some false))))))))))=some true:=by
   show cond (d==[]) _ _=_;by_cases V:d=[]
   ·rw[show(d==([]:aa))=true from by rw[V];rfl,aj,c];rfl
   ·rw[cj V,ae];obtain⟨r,Z,X⟩:=C.2.2.2 V;obtain⟨c1,D,c2,c3,s,c4,c5⟩:=J7 U r ⟨Z,X⟩;rw[c2];simp only[ob,u2];rw[c3];simp only[u4,u3,u2];rw[c4];simp only[u2];rw[c1];simp only[qj,aj,Bool.and_self];rw[ay (show len s>0 by show(0:Int)<((s.length:Nat):Int);omega),aj,hH];simp only[aj,c]
  simp only[obs,sm,u4,u3,u2];show ob (ba 20000000 b l dg (x:Int) 0) _=_;rw[hM];simp only[ob];cases M:hasX dg
  ·rw[ae];exact j
  ·rw[aj];show ob (lj 20000000 dg (cond (decide ((w64 (0 - z.1))>z.1)) (w64 (0 - z.1)) z.1)) _=_;rw[hY M];exact j
end Go.Sh
