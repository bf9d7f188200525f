
/- Opening a law's arguments: rows of numbers, bools and strings; slices of such rows.
   Conditions: none; generic over the program. -/
import Derived.Test.YthemneooekobkaaGreatDoorAbsY
set_option linter.unusedSimpArgs false
set_option linter.unusedVariables false
namespace Go.Abs
open Go.RowKit Go.ChangeShapes Go.WideShapes
def Lf.wf:(a:Lf)->a.den->Prop
 | .i k,n=>(Lit.int k n).wf=true
 | .bo,_=>True
 | .s,l=>l.length<=maxLen
def tV:(t:List Lf)->den t->Prop
 | [],_=>True
 | [a],x=>a.wf x
 | a::b::l,x=>a.wf x.1/\tV (b::l) x.2
def wH:(t u:List Lf)->den t->den u->den (t++u)
 | [],_,_,y=>y
 | [a],[],x,_=>x
 | [a],b::u,x,y=>(x,y)
 | a::b::t,u,x,y=>(x.1,wH (b::t) u x.2 y)
theorem qC:∀(t u:List Lf) (x:den t) (y:den u),vals (t++u) (wH t u x y)=vals t x++vals u y
 | [],u,x,y=>rfl
 | [a],[],x,y=>rfl
 | [a],b::u,x,y=>rfl
 | a::b::t,u,x,y=>by
  show a.val x.1::vals (b::t++u) (wH (b::t) u x.2 y)=_;rw [qC (b::t) u x.2 y];rfl
theorem vg:∀(t u:List Lf) (x:den t) (y:den u),tV t x->tV u y->tV (t++u) (wH t u x y)
 | [],u,x,y,_,h=>h
 | [a],[],x,y,h,_=>h
 | [a],b::u,x,y,h,c=>⟨h,c⟩
 | a::b::t,u,x,y,h,c=>⟨h.1,vg (b::t) u x.2 y h.2 c⟩
def offF (ok:TypeId->Bool) (b:TypeId->Nat) (a:Nat):Nat->List Field->Bool
 | o,[]=>Nat.beq o a
 | o,f::l=>Nat.beq f.offset o&&(ok f.type&&offF ok b a (o+b f.type) l)
def BZ (P:Program):Nat->TypeId->Bool
 | 0,_=>false
 | d+1,t=>match P.underlying t with
  | some (.int _)=>true
  | some .bool=>true
  | some .string=>true
  | some (.array n e)=>BZ P d e&&Nat.beq (P.cellsOf t) (n*P.cellsOf e)
  | some (.struct a)=>offF (BZ P d) P.cellsOf (P.cellsOf t) 0 a.toList
  | _=>false
section
variable {H:Type} {enc:TypeId×Value->H} {P:Program} {w:World} {base:Nat} {spare:Nat->Bool} {held:Bool}
theorem wP {α:Type} (a:List α) (o n:Nat):a.drop o=(a.drop o).take n++a.drop (o+n):=by
 rw [<-iL];exact (oi n _).symm
theorem wQ {d fuel:Nat} (ih:∀{e:TypeId} {tr:List Lf} {g:List Value} {x:DataW H×List MemPlace},sR P d e=some tr->BZ P d e=true->DataW.trod enc P w base spare held fuel e g=some x->∃r:den tr,g=vals tr r/\tV tr r)
  (g:List Value):∀(h:List Field) (o:Nat) (tr:List Lf) (m:List (DataW H×List MemPlace)),JP (sR P d) h=some tr->offF (BZ P d) P.cellsOf g.length o h=true->
   (h.mapM λf=>DataW.trod enc P w base spare held fuel f.type ((g.drop f.offset).take (P.cellsOf f.type)))=some m->∃r:den tr,g.drop o=vals tr r/\tV tr r
 | [],o,tr,m,c,j,i=>by
  simp only [JP,aq] at c;subst c;have:=bm j;exact ⟨(),by rw [this];simp [vals],trivial⟩
 | f::h,o,tr,m,c,j,i=>by
  simp only [JP] at c;split at c
  case h_2=>cases c
  rename_i a D;split at c
  case h_2=>cases c
  rename_i b q;simp only [aq] at c;subst c;simp only [offF,aA] at j;obtain ⟨k,s,t⟩:=j;have k:=bm k;subst k;rw [xO] at i;simp only [Option.bind_eq_bind,IK] at i;obtain ⟨y,A,C,l,_⟩:=i;obtain ⟨n,B,z⟩:=ih D s A;obtain ⟨p,u,v⟩:=wQ ih g h _ b C q t l;exact ⟨wH a b n p,by rw [qC,<-B,<-u];exact wP g _ _,vg a b n p z v⟩
theorem Ad {b:Nat} {l:List Lf} {e:TypeId} {fuel:Nat} (ih:∀{a:List Value} {x:DataW H×List MemPlace},DataW.trod enc P w base spare held fuel e a=some x->∃r:den l,a=vals l r/\tV l r)
  (a:List Value) (z:Nat) (p:a.length=b*z):∀(n i:Nat),i+n=b->(∀j,i<=j->j<b->∃y,DataW.trod enc P w base spare held fuel e ((a.drop (j*z)).take z)=some y)->∃r:den (repL n l),a.drop (i*z)=vals (repL n l) r/\tV (repL n l) r
 | 0,i,hi,_=>by
  have:i=b:=by omega
  subst this;exact ⟨(),by rw [iD (by omega)];rfl,trivial⟩
 | n+1,i,hi,h=>by
  obtain ⟨y,m⟩:=h i (by omega) (by omega);obtain ⟨d,q,f⟩:=ih m;obtain ⟨c,g,o⟩:=Ad ih a z p n (i+1) (by omega) (λj s k=>h j (by omega) k);refine ⟨wH l (repL n l) d c,?_,vg _ _ d c f o⟩;show _=vals (l++repL n l) _;rw [qC,<-q,<-g,Nat.succ_mul];exact wP a _ _
theorem xn:∀(d fuel:Nat) {e:TypeId} {tr:List Lf} {o:List Value} {x:DataW H×List MemPlace},sR P d e=some tr->BZ P d e=true->
  DataW.trod enc P w base spare held fuel e o=some x->∃r:den tr,o=vals tr r/\tV tr r
 | 0,_,_,_,_,_,h,_,_=>by simp [sR] at h
 | _+1,0,_,_,_,_,_,_,h=>by simp [DataW.trod] at h
 | d+1,fuel+1,e,tr,o,x,a,g,c=>by
  unfold sR at a;unfold BZ at g;cases i:P.underlying e with
  | none=>rw [i] at a;cases a
  | some p=>
   rw [i] at a g;cases p with
   | int k=>
    simp only [aq] at a;subst a;obtain ⟨m,rfl,_,D⟩:=DataW.trod_int i c;exact ⟨m,rfl,D⟩
   | bool=>
    simp only [aq] at a;subst a;obtain ⟨b,rfl,_⟩:=DataW.trod_bool i c;exact ⟨b,rfl,trivial⟩
   | string=>
    simp only [aq] at a;subst a;obtain ⟨s,rfl,_,G⟩:=DataW.trod_string i c;exact ⟨s.data.toList,by simp [vals,Lf.val],G⟩
   | array n z=>
    simp only at a g;split at a
    case h_2=>cases a
    rename_i l _ F;simp only [aq] at a;subst a;simp only [aA] at g;have E:=bm g.2;unfold DataW.trod at c;rw [i] at c;simp only at c;split at c
    case isFalse=>cases c
    rename_i f;simp only [Option.map_eq_some_iff] at c;obtain ⟨v,q,_⟩:=c
    have:=Ad (fuel:=fuel) (l:=l) (e:=z) (λh=>xn d fuel F g.1 h) o (P.cellsOf z) (by rw [f,E]) n 0 (by omega) (λj _ y=>by
     have A:=mapM_some_get q j j (by simp [y]);have u:=mapM_some_length q;have t:j<v.length:=by rw [u];simpa using y
     rw [bj t] at A;exact ⟨_,A⟩)
    simpa using this
   | struct B=>
    simp only at a g;unfold DataW.trod at c;rw [i] at c;simp only at c;split at c
    case isFalse=>cases c
    rename_i f;simp only [Option.map_eq_some_iff] at c;obtain ⟨v,q,_⟩:=c;have:=wQ (d:=d) (fuel:=fuel) (λI C hc=>xn d fuel I C hc) o B.toList 0 tr v a (by rw [f];exact g) q;simpa using this
   | _=>cases a
theorem Jj {d:Nat} {t:TypeId} {tr:List Lf} {v:Value} {f:DataW H} {a:List MemPlace} (e:sR P d t=some tr) (g:BZ P d t=true) (c:DataW.Trod enc P w base spare held t v f a):
  ∃r:den tr,v.cells.toList=vals tr r/\tV tr r:=by
 obtain ⟨fuel,b⟩:=c;exact xn d fuel e g b
end
section
variable {H:Type} {enc:TypeId×Value->H} {P:Program} {w:World} {held:Bool}
theorem xJ {t:TypeId} {c:Array Field} {v:Value} {r:Reach} {b0:Nat} {l:List Value} (b:P.underlying t=some (.struct c)) (a:Value.okWide P w r b0 t v) (h:v.cells.toList=l):v=.agg l.toArray:=by
 simp only [Value.okWide,b] at a;obtain ⟨d,rfl,_⟩:=a;subst h;simp [Value.cells]
end
end Go.Abs
