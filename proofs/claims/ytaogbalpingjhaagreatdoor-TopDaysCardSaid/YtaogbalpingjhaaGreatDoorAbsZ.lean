
/- Opening a law's arguments: rows of numbers, bools and strings; slices of such rows.
   Conditions: none; generic over the program. -/
import Derived.Test.YtaogbalpingjhaaGreatDoorAbsY
set_option linter.unusedSimpArgs false
set_option linter.unusedVariables false
namespace Go.Abs
open Go.RowKit Go.ChangeShapes Go.WideShapes
def Lf.wf:(a:Lf)->a.den->Prop
 | .i k,n=>(Lit.int k n).wf=true
 | .bo,_=>True
 | .s,l=>l.length<=maxLen
def rD:(t:List Lf)->den t->Prop
 | [],_=>True
 | [a],x=>a.wf x
 | a::b::l,x=>a.wf x.1/\rD (b::l) x.2
def sJ:(t u:List Lf)->den t->den u->den (t++u)
 | [],_,_,y=>y
 | [a],[],x,_=>x
 | [a],b::u,x,y=>(x,y)
 | a::b::t,u,x,y=>(x.1,sJ (b::t) u x.2 y)
theorem mV:∀(t u:List Lf) (x:den t) (y:den u),vals (t++u) (sJ t u x y)=vals t x++vals u y
 | [],u,x,y=>rfl
 | [a],[],x,y=>rfl
 | [a],b::u,x,y=>rfl
 | a::b::t,u,x,y=>by
  show a.val x.1::vals (b::t++u) (sJ (b::t) u x.2 y)=_;rw [mV (b::t) u x.2 y];rfl
theorem qc:∀(t u:List Lf) (x:den t) (y:den u),rD t x->rD u y->rD (t++u) (sJ t u x y)
 | [],u,x,y,_,h=>h
 | [a],[],x,y,h,_=>h
 | [a],b::u,x,y,h,c=>⟨h,c⟩
 | a::b::t,u,x,y,h,c=>⟨h.1,qc (b::t) u x.2 y h.2 c⟩
def offF (ok:TypeId->Bool) (b:TypeId->Nat) (a:Nat):Nat->List Field->Bool
 | o,[]=>Nat.beq o a
 | o,f::l=>Nat.beq f.offset o&&(ok f.type&&offF ok b a (o+b f.type) l)
def wA (P:Program):Nat->TypeId->Bool
 | 0,_=>false
 | d+1,t=>match P.underlying t with
  | some (.int _)=>true
  | some .bool=>true
  | some .string=>true
  | some (.array n e)=>wA P d e&&Nat.beq (P.cellsOf t) (n*P.cellsOf e)
  | some (.struct a)=>offF (wA P d) P.cellsOf (P.cellsOf t) 0 a.toList
  | _=>false
section
variable {H:Type} {enc:TypeId×Value->H} {P:Program} {w:World} {base:Nat} {spare:Nat->Bool} {held:Bool}
theorem sM {α:Type} (a:List α) (o n:Nat):a.drop o=(a.drop o).take n++a.drop (o+n):=by
 rw [<-su];exact (qd n _).symm
theorem sK {d fuel:Nat} (ih:∀{e:TypeId} {tr:List Lf} {g:List Value} {x:DataW H×List MemPlace},pE P d e=some tr->wA P d e=true->DataW.trod enc P w base spare held fuel e g=some x->∃r:den tr,g=vals tr r/\rD tr r)
  (g:List Value):∀(h:List Field) (o:Nat) (tr:List Lf) (k:List (DataW H×List MemPlace)),Br (pE P d) h=some tr->offF (wA P d) P.cellsOf g.length o h=true->
   (h.mapM λf=>DataW.trod enc P w base spare held fuel f.type ((g.drop f.offset).take (P.cellsOf f.type)))=some k->∃r:den tr,g.drop o=vals tr r/\rD tr r
 | [],o,tr,k,c,j,i=>by
  simp only [Br,ae] at c;subst c;have:=aS j;exact ⟨(),by rw [this];simp [vals],trivial⟩
 | f::h,o,tr,k,c,j,i=>by
  simp only [Br] at c;split at c
  case h_2=>cases c
  rename_i a u;split at c
  case h_2=>cases c
  rename_i b s;simp only [ae] at c;subst c;simp only [offF,av] at j;obtain ⟨l,B,t⟩:=j;have l:=aS l;subst l;rw [xI] at i;simp only [Option.bind_eq_bind,Ax] at i;obtain ⟨y,q,A,m,_⟩:=i;obtain ⟨n,D,v⟩:=ih u B q;obtain ⟨p,z,C⟩:=sK ih g h _ b A s t m;exact ⟨sJ a b n p,by rw [mV,<-D,<-z];exact sM g _ _,qc a b n p v C⟩
theorem vA {b:Nat} {l:List Lf} {e:TypeId} {fuel:Nat} (ih:∀{a:List Value} {x:DataW H×List MemPlace},DataW.trod enc P w base spare held fuel e a=some x->∃r:den l,a=vals l r/\rD l r)
  (a:List Value) (z:Nat) (o:a.length=b*z):∀(n i:Nat),i+n=b->(∀j,i<=j->j<b->∃y,DataW.trod enc P w base spare held fuel e ((a.drop (j*z)).take z)=some y)->∃r:den (repL n l),a.drop (i*z)=vals (repL n l) r/\rD (repL n l) r
 | 0,i,hi,_=>by
  have:i=b:=by omega
  subst this;exact ⟨(),by rw [nv (by omega)];rfl,trivial⟩
 | n+1,i,hi,h=>by
  obtain ⟨y,f⟩:=h i (by omega) (by omega);obtain ⟨c,q,g⟩:=ih f;obtain ⟨d,m,p⟩:=vA ih a z o n (i+1) (by omega) (λj s k=>h j (by omega) k);refine ⟨sJ l (repL n l) c d,?_,qc _ _ c d g p⟩;show _=vals (l++repL n l) _;rw [mV,<-q,<-m,Nat.succ_mul];exact sM a _ _
theorem tW:∀(d fuel:Nat) {e:TypeId} {tr:List Lf} {o:List Value} {x:DataW H×List MemPlace},pE P d e=some tr->wA P d e=true->
  DataW.trod enc P w base spare held fuel e o=some x->∃r:den tr,o=vals tr r/\rD tr r
 | 0,_,_,_,_,_,h,_,_=>by simp [pE] at h
 | _+1,0,_,_,_,_,_,_,h=>by simp [DataW.trod] at h
 | d+1,fuel+1,e,tr,o,x,a,g,c=>by
  unfold pE at a;unfold wA at g;cases i:P.underlying e with
  | none=>rw [i] at a;cases a
  | some p=>
   rw [i] at a g;cases p with
   | int k=>
    simp only [ae] at a;subst a;obtain ⟨m,rfl,_,B⟩:=DataW.trod_int i c;exact ⟨m,rfl,B⟩
   | bool=>
    simp only [ae] at a;subst a;obtain ⟨b,rfl,_⟩:=DataW.trod_bool i c;exact ⟨b,rfl,trivial⟩
   | string=>
    simp only [ae] at a;subst a;obtain ⟨s,rfl,_,D⟩:=DataW.trod_string i c;exact ⟨s.data.toList,by simp [vals,Lf.val],D⟩
   | array n z=>
    simp only at a g;split at a
    case h_2=>cases a
    rename_i l _ I;simp only [ae] at a;subst a;simp only [av] at g;have G:=aS g.2;unfold DataW.trod at c;rw [i] at c;simp only at c;split at c
    case isFalse=>cases c
    rename_i f;simp only [Option.map_eq_some_iff] at c;obtain ⟨v,q,_⟩:=c
    have:=vA (fuel:=fuel) (l:=l) (e:=z) (λh=>tW d fuel I g.1 h) o (P.cellsOf z) (by rw [f,G]) n 0 (by omega) (λj _ A=>by
     have y:=mapM_some_get q j j (by simp [A]);have t:=mapM_some_length q;have u:j<v.length:=by rw [t];simpa using A
     rw [cn u] at y;exact ⟨_,y⟩)
    simpa using this
   | struct F=>
    simp only at a g;unfold DataW.trod at c;rw [i] at c;simp only at c;split at c
    case isFalse=>cases c
    rename_i f;simp only [Option.map_eq_some_iff] at c;obtain ⟨v,q,_⟩:=c;have:=sK (d:=d) (fuel:=fuel) (λE C hc=>tW d fuel E C hc) o F.toList 0 tr v a (by rw [f];exact g) q;simpa using this
   | _=>cases a
theorem CP {d:Nat} {t:TypeId} {tr:List Lf} {v:Value} {a:DataW H} {c:List MemPlace} (b:pE P d t=some tr) (f:wA P d t=true) (g:DataW.Trod enc P w base spare held t v a c):
  ∃r:den tr,v.cells.toList=vals tr r/\rD tr r:=by
 obtain ⟨fuel,e⟩:=g;exact tW d fuel b f e
end
section
variable {H:Type} {enc:TypeId×Value->H} {P:Program} {w:World} {held:Bool}
theorem tu {t:TypeId} {d:Array Field} {v:Value} {r:Reach} {b:Nat} {l:List Value} (c:P.underlying t=some (.struct d)) (a:Value.okWide P w r b t v) (h:v.cells.toList=l):v=.agg l.toArray:=by
 simp only [Value.okWide,c] at a;obtain ⟨e,rfl,_⟩:=a;subst h;simp [Value.cells]
end
end Go.Abs
