
/- Opening a law's arguments: rows of numbers, bools and strings; slices of such rows.
   Conditions: none; generic over the program. -/
import Derived.Test.YtfiponokimbeeaaGreatDoorAbsY
set_option linter.unusedSimpArgs false
set_option linter.unusedVariables false
namespace Go.Abs
open Go.RowKit Go.ChangeShapes Go.WideShapes
def Lf.wf:(a:Lf)->a.den->Prop
 | .i k,n=>(Lit.int k n).wf=true
 | .bo,_=>True
 | .s,l=>l.length<=maxLen
def tK:(t:List Lf)->den t->Prop
 | [],_=>True
 | [a],x=>a.wf x
 | a::b::l,x=>a.wf x.1/\tK (b::l) x.2
def xX:(t u:List Lf)->den t->den u->den (t++u)
 | [],_,_,y=>y
 | [a],[],x,_=>x
 | [a],b::u,x,y=>(x,y)
 | a::b::t,u,x,y=>(x.1,xX (b::t) u x.2 y)
theorem qY:∀(t u:List Lf) (x:den t) (y:den u),vals (t++u) (xX t u x y)=vals t x++vals u y
 | [],u,x,y=>rfl
 | [a],[],x,y=>rfl
 | [a],b::u,x,y=>rfl
 | a::b::t,u,x,y=>by
  show a.val x.1::vals (b::t++u) (xX (b::t) u x.2 y)=_;rw [qY (b::t) u x.2 y];rfl
theorem wo:∀(t u:List Lf) (x:den t) (y:den u),tK t x->tK u y->tK (t++u) (xX t u x y)
 | [],u,x,y,_,h=>h
 | [a],[],x,y,h,_=>h
 | [a],b::u,x,y,h,c=>⟨h,c⟩
 | a::b::t,u,x,y,h,c=>⟨h.1,wo (b::t) u x.2 y h.2 c⟩
def offF (ok:TypeId->Bool) (b:TypeId->Nat) (a:Nat):Nat->List Field->Bool
 | o,[]=>Nat.beq o a
 | o,f::l=>Nat.beq f.offset o&&(ok f.type&&offF ok b a (o+b f.type) l)
def Cf (P:Program):Nat->TypeId->Bool
 | 0,_=>false
 | d+1,t=>match P.underlying t with
  | some (.int _)=>true
  | some .bool=>true
  | some .string=>true
  | some (.array n e)=>Cf P d e&&Nat.beq (P.cellsOf t) (n*P.cellsOf e)
  | some (.struct a)=>offF (Cf P d) P.cellsOf (P.cellsOf t) 0 a.toList
  | _=>false
section
variable {H:Type} {enc:TypeId×Value->H} {P:Program} {w:World} {base:Nat} {spare:Nat->Bool} {held:Bool}
theorem xe {α:Type} (a:List α) (o n:Nat):a.drop o=(a.drop o).take n++a.drop (o+n):=by
 rw [<-gV];exact (rc n _).symm
theorem yb {d fuel:Nat} (ih:∀{e:TypeId} {tr:List Lf} {g:List Value} {x:DataW H×List MemPlace},tG P d e=some tr->Cf P d e=true->DataW.trod enc P w base spare held fuel e g=some x->∃r:den tr,g=vals tr r/\tK tr r)
  (g:List Value):∀(h:List Field) (o:Nat) (tr:List Lf) (l:List (DataW H×List MemPlace)),KI (tG P d) h=some tr->offF (Cf P d) P.cellsOf g.length o h=true->
   (h.mapM λf=>DataW.trod enc P w base spare held fuel f.type ((g.drop f.offset).take (P.cellsOf f.type)))=some l->∃r:den tr,g.drop o=vals tr r/\tK tr r
 | [],o,tr,l,c,j,i=>by
  simp only [KI,ak] at c;subst c;have:=bq j;exact ⟨(),by rw [this];simp [vals],trivial⟩
 | f::h,o,tr,l,c,j,i=>by
  simp only [KI] at c;split at c
  case h_2=>cases c
  rename_i a s;split at c
  case h_2=>cases c
  rename_i b z;simp only [ak] at c;subst c;simp only [offF,aB] at j;obtain ⟨k,q,B⟩:=j;have k:=bq k;subst k;rw [ER] at i;simp only [Option.bind_eq_bind,K5] at i;obtain ⟨y,hy,u,m,_⟩:=i;obtain ⟨p,C,v⟩:=ih s q hy;obtain ⟨n,t,A⟩:=yb ih g h _ b u z B m;exact ⟨xX a b p n,by rw [qY,<-C,<-t];exact xe g _ _,wo a b p n v A⟩
theorem AQ {b:Nat} {l:List Lf} {e:TypeId} {fuel:Nat} (ih:∀{a:List Value} {x:DataW H×List MemPlace},DataW.trod enc P w base spare held fuel e a=some x->∃r:den l,a=vals l r/\tK l r)
  (a:List Value) (z:Nat) (k:a.length=b*z):∀(n i:Nat),i+n=b->(∀j,i<=j->j<b->∃y,DataW.trod enc P w base spare held fuel e ((a.drop (j*z)).take z)=some y)->∃r:den (repL n l),a.drop (i*z)=vals (repL n l) r/\tK (repL n l) r
 | 0,i,hi,_=>by
  have:i=b:=by omega
  subst this;exact ⟨(),by rw [iD (by omega)];rfl,trivial⟩
 | n+1,i,hi,h=>by
  obtain ⟨y,hy⟩:=h i (by omega) (by omega);obtain ⟨d,o,m⟩:=ih hy;obtain ⟨c,g,f⟩:=AQ ih a z k n (i+1) (by omega) (λj q p=>h j (by omega) p);refine ⟨xX l (repL n l) d c,?_,wo _ _ d c m f⟩;show _=vals (l++repL n l) _;rw [qY,<-o,<-g,Nat.succ_mul];exact xe a _ _
theorem zn:∀(d fuel:Nat) {e:TypeId} {tr:List Lf} {o:List Value} {x:DataW H×List MemPlace},tG P d e=some tr->Cf P d e=true->
  DataW.trod enc P w base spare held fuel e o=some x->∃r:den tr,o=vals tr r/\tK tr r
 | 0,_,_,_,_,_,h,_,_=>by simp [tG] at h
 | _+1,0,_,_,_,_,_,_,h=>by simp [DataW.trod] at h
 | d+1,fuel+1,e,tr,o,x,a,g,c=>by
  unfold tG at a;unfold Cf at g;cases i:P.underlying e with
  | none=>rw [i] at a;cases a
  | some p=>
   rw [i] at a g;cases p with
   | int k=>
    simp only [ak] at a;subst a;obtain ⟨m,rfl,_,G⟩:=DataW.trod_int i c;exact ⟨m,rfl,G⟩
   | bool=>
    simp only [ak] at a;subst a;obtain ⟨b,rfl,_⟩:=DataW.trod_bool i c;exact ⟨b,rfl,trivial⟩
   | string=>
    simp only [ak] at a;subst a;obtain ⟨s,rfl,_,hs⟩:=DataW.trod_string i c;exact ⟨s.data.toList,by simp [vals,Lf.val],hs⟩
   | array n z=>
    simp only at a g;split at a
    case h_2=>cases a
    rename_i l _ C;simp only [ak] at a;subst a;simp only [aB] at g;have B:=bq g.2;unfold DataW.trod at c;rw [i] at c;simp only at c;split at c
    case isFalse=>cases c
    rename_i f;simp only [Option.map_eq_some_iff] at c;obtain ⟨u,q,_⟩:=c
    have:=AQ (fuel:=fuel) (l:=l) (e:=z) (λh=>zn d fuel C g.1 h) o (P.cellsOf z) (by rw [f,B]) n 0 (by omega) (λj _ A=>by
     have y:=mapM_some_get q j j (by simp [A]);have t:=mapM_some_length q;have v:j<u.length:=by rw [t];simpa using A
     rw [bn v] at y;exact ⟨_,y⟩)
    simpa using this
   | struct F=>
    simp only at a g;unfold DataW.trod at c;rw [i] at c;simp only at c;split at c
    case isFalse=>cases c
    rename_i f;simp only [Option.map_eq_some_iff] at c;obtain ⟨u,q,_⟩:=c;have:=yb (d:=d) (fuel:=fuel) (λD E hc=>zn d fuel D E hc) o F.toList 0 tr u a (by rw [f];exact g) q;simpa using this
   | _=>cases a
theorem A4 {d:Nat} {t:TypeId} {tr:List Lf} {v:Value} {e:DataW H} {c:List MemPlace} (b:tG P d t=some tr) (f:Cf P d t=true) (g:DataW.Trod enc P w base spare held t v e c):
  ∃r:den tr,v.cells.toList=vals tr r/\tK tr r:=by
 obtain ⟨fuel,a⟩:=g;exact zn d fuel b f a
end
section
variable {H:Type} {enc:TypeId×Value->H} {P:Program} {w:World} {held:Bool}
theorem rl {t:TypeId} {b:Array Field} {v:Value} {r:Reach} {b0:Nat} {l:List Value} (c:P.underlying t=some (.struct b)) (a:Value.okWide P w r b0 t v) (h:v.cells.toList=l):v=.agg l.toArray:=by
 simp only [Value.okWide,c] at a;obtain ⟨d,rfl,_⟩:=a;subst h;simp [Value.cells]
end
end Go.Abs
