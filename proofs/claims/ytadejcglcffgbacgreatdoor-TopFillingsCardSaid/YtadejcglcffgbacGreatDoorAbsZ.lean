
import Derived.Test.YtadejcglcffgbacGreatDoorAbsY
set_option linter.unusedSimpArgs false
set_option linter.unusedVariables false
set_option linter.defProp false
namespace Go.Abs
open Go.RowKit Go.ChangeShapes Go.WideShapes
def Lf.wf:(a:Lf)->a.den->Prop
 | .i k,n=>(Lit.int k n).wf=true
 | .bo,_=>True
 | .s,l=>l.length<=maxLen
def ts:(t:List Lf)->den t->Prop
 | [],_=>True
 | [a],x=>a.wf x
 | a::b::l,x=>a.wf x.1/\ts (b::l) x.2
def uT:(t u:List Lf)->den t->den u->den (t++u)
 | [],_,_,y=>y
 | [a],[],x,_=>x
 | [a],b::u,x,y=>(x,y)
 | a::b::t,u,x,y=>(x.1,uT (b::t) u x.2 y)
def oi:∀(t u:List Lf) (x:den t) (y:den u),vals (t++u) (uT t u x y)=vals t x++vals u y
 | [],u,x,y=>rfl
 | [a],[],x,y=>rfl
 | [a],b::u,x,y=>rfl
 | a::b::t,u,x,y=>by
  show a.val x.1::vals (b::t++u) (uT (b::t) u x.2 y)=_;rw[oi (b::t) u x.2 y];rfl
def r7:∀(t u:List Lf) (x:den t) (y:den u),ts t x->ts u y->ts (t++u) (uT t u x y)
 | [],u,x,y,_,h=>h
 | [a],[],x,y,h,_=>h
 | [a],b::u,x,y,h,c=>⟨h,c⟩
 | a::b::t,u,x,y,h,c=>⟨h.1,r7 (b::t) u x.2 y h.2 c⟩
def offF(ok:TypeId->Bool)(a:TypeId->Nat)(tot:Nat):Nat->List Field->Bool
 | o,[]=>Nat.beq o tot
 | o,f::l=>Nat.beq f.offset o&&(ok f.type&&offF ok a tot (o+a f.type) l)
def yX(P:Program):Nat->TypeId->Bool
 | 0,_=>false
 | d+1,t=>match P.underlying t with
  | some (.int _)=>true
  | some .bool=>true
  | some .string=>true
  | some (.array n e)=>yX P d e&&Nat.beq (P.cellsOf t) (n*P.cellsOf e)
  | some (.struct a)=>offF (yX P d) P.cellsOf (P.cellsOf t) 0 a.toList
  | _=>false
section
variable {H:Type} {enc:TypeId×Value->H} {P:Program} {w:World} {base:Nat} {spare:Nat->Bool} {held:Bool}
def uw{α:Type}(a:List α)(o n:Nat):a.drop o=(a.drop o).take n++a.drop (o+n):=by
 rw[<-vf];exact(qw n _).symm
def uv {d fuel:Nat} (ih:∀{e:TypeId} {tr:List Lf} {c:List Value} {x:DataW H×List MemPlace},rf P d e=some tr->yX P d e=true->DataW.trod enc P w base spare held fuel e c=some x->∃r:den tr,c=vals tr r/\ts tr r)
  (c:List Value):∀(g:List Field) (o:Nat) (tr:List Lf) (j:List (DataW H×List MemPlace)),Dz (rf P d) g=some tr->offF (yX P d) P.cellsOf c.length o g=true->
   (g.mapM λf=>DataW.trod enc P w base spare held fuel f.type ((c.drop f.offset).take (P.cellsOf f.type)))=some j->∃r:den tr,c.drop o=vals tr r/\ts tr r
 | [],o,tr,j,h1,h2,h=>by
  simp only [Dz,af] at h1;subst h1;have:=aS h2;exact ⟨(),by rw [this];simp [vals],trivial⟩
 | f::g,o,tr,j,h1,h2,h=>by
  simp only [Dz] at h1;split at h1
  case h_2=>cases h1
  rename_i a z;split at h1
  case h_2=>cases h1
  rename_i b u;simp only [af] at h1;subst h1;simp only [offF,aw] at h2;obtain ⟨k,p,v⟩:=h2;have k:=aS k;subst k;rw [wh] at h;simp only [Option.bind_eq_bind,Do] at h;obtain ⟨y,t,A,i,_⟩:=h;obtain ⟨l,q,B⟩:=ih z p t;obtain ⟨m,n,s⟩:=uv ih c g _ b A u v i;exact ⟨uT a b l m,by rw [oi,<-q,<-n];exact uw c _ _,r7 a b l m B s⟩
def xn{b:Nat}{l:List Lf}{e:TypeId}{fuel:Nat}(ih:∀{a:List Value} {x:DataW H×List MemPlace},DataW.trod enc P w base spare held fuel e a=some x->∃r:den l,a=vals l r/\ts l r)
  (a:List Value) (z:Nat) (p:a.length=b*z):∀(n i:Nat),i+n=b->(∀j,i<=j->j<b->∃y,DataW.trod enc P w base spare held fuel e ((a.drop (j*z)).take z)=some y)->∃r:den (repL n l),a.drop (i*z)=vals (repL n l) r/\ts (repL n l) r
 | 0,i,hi,_=>by
  have:i=b:=by omega
  subst this;exact⟨(),by rw[nL (by omega)];rfl,trivial⟩
 | n+1,i,hi,h=>by
  obtain⟨y,m⟩:=h i (by omega) (by omega);obtain⟨c,g,o⟩:=ih m;obtain⟨d,f,k⟩:=xn ih a z p n (i+1) (by omega) (λj h1 h2=>h j (by omega) h2);refine⟨uT l (repL n l) c d,?_,r7 _ _ c d o k⟩;show _=vals (l++repL n l) _;rw[oi,<-g,<-f,Nat.succ_mul];exact uw a _ _
def vR:∀(d fuel:Nat) {e:TypeId} {tr:List Lf} {g:List Value} {x:DataW H×List MemPlace},rf P d e=some tr->yX P d e=true->
  DataW.trod enc P w base spare held fuel e g=some x->∃r:den tr,g=vals tr r/\ts tr r
 | 0,_,_,_,_,_,h,_,_=>by simp[rf]at h
 | _+1,0,_,_,_,_,_,_,h=>by simp[DataW.trod]at h
 | d+1,fuel+1,e,tr,g,x,h1,h2,a=>by
  unfold rf at h1;unfold yX at h2;cases f:P.underlying e with
  | none=>rw[f]at h1;cases h1
  | some i=>
   rw[f]at h1 h2;cases i with
   | int k=>
    simp only[af]at h1;subst h1;obtain⟨m,rfl,_,D⟩:=DataW.trod_int f a;exact⟨m,rfl,D⟩
   | bool=>
    simp only[af]at h1;subst h1;obtain⟨b,rfl,_⟩:=DataW.trod_bool f a;exact⟨b,rfl,trivial⟩
   | string=>
    simp only[af]at h1;subst h1;obtain⟨s,rfl,_,B⟩:=DataW.trod_string f a;exact⟨s.data.toList,by simp[vals,Lf.val],B⟩
   | array n u=>
    simp only at h1 h2;split at h1
    case h_2=>cases h1
    rename_i l _ F;simp only[af]at h1;subst h1;simp only[aw]at h2;have A:=aS h2.2;unfold DataW.trod at a;rw[f]at a;simp only at a;split at a
    case isFalse=>cases a
    rename_i c;simp only[vz]at a;obtain⟨p,o,_⟩:=a
    have:=xn (fuel:=fuel) (l:=l) (e:=u) (λh=>vR d fuel F h2.1 h) g (P.cellsOf u) (by rw[c,A]) n 0 (by omega) (λj _ v=>by
     have y:=mapM_some_get o j j (by simp[v]);have t:=mapM_some_length o;have q:j<p.length:=by rw[t];simpa using v
     rw[bN q]at y;exact⟨_,y⟩)
    simpa using this
   | struct C=>
    simp only at h1 h2;unfold DataW.trod at a;rw[f]at a;simp only at a;split at a
    case isFalse=>cases a
    rename_i c;simp only[vz]at a;obtain⟨p,o,_⟩:=a;have:=uv (d:=d) (fuel:=fuel) (λE z hc=>vR d fuel E z hc) g C.toList 0 tr p h1 (by rw[c];exact h2) o;simpa using this
   | _=>cases h1
def EV{d:Nat}{t:TypeId}{tr:List Lf}{v:Value}{g:DataW H}{e:List MemPlace}(a:rf P d t=some tr)(b:yX P d t=true)(c:DataW.Trod enc P w base spare held t v g e):
  ∃r:den tr,v.cells.toList=vals tr r/\ts tr r:=by
 obtain⟨fuel,f⟩:=c;exact vR d fuel a b f
end
section
variable {H:Type} {enc:TypeId×Value->H} {P:Program} {w:World} {held:Bool}
def vS{t:TypeId}{c:Array Field}{v:Value}{r:Reach}{b:Nat}{l:List Value}(d:P.underlying t=some (.struct c))(a:Value.okWide P w r b t v)(h:v.cells.toList=l):v=.agg l.toArray:=by
 simp only[Value.okWide,d]at a;obtain⟨e,rfl,_⟩:=a;subst h;simp[Value.cells]
end
end Go.Abs
