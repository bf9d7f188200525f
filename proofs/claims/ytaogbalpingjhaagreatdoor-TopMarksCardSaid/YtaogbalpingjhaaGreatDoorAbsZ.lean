
/- Opening a law's arguments: rows of numbers, bools and strings; slices of such rows.
   Conditions: none; generic over the program. -/
import Derived.Test.YtaogbalpingjhaaGreatDoorAbsY
set_option linter.unusedSimpArgs false
set_option linter.unusedVariables false
namespace Go.Abs
open Go.RowKit Go.ChangeShapes Go.WideShapes
def Lf.wf:(a:Lf)->a.den->Prop
 | .i k,n=>(Lit.int k n).wf=true
 | .bo,_=>True
 | .s,l=>l.length<=maxLen
def uy:(t:List Lf)->den t->Prop
 | [],_=>True
 | [a],x=>a.wf x
 | a::b::l,x=>a.wf x.1/\uy (b::l) x.2
def wu:(t u:List Lf)->den t->den u->den (t++u)
 | [],_,_,y=>y
 | [a],[],x,_=>x
 | [a],b::u,x,y=>(x,y)
 | a::b::t,u,x,y=>(x.1,wu (b::t) u x.2 y)
theorem qw:∀(t u:List Lf) (x:den t) (y:den u),vals (t++u) (wu t u x y)=vals t x++vals u y
 | [],u,x,y=>rfl
 | [a],[],x,y=>rfl
 | [a],b::u,x,y=>rfl
 | a::b::t,u,x,y=>by
  show a.val x.1::vals (b::t++u) (wu (b::t) u x.2 y)=_;rw [qw (b::t) u x.2 y];rfl
theorem uu:∀(t u:List Lf) (x:den t) (y:den u),uy t x->uy u y->uy (t++u) (wu t u x y)
 | [],u,x,y,_,h=>h
 | [a],[],x,y,h,_=>h
 | [a],b::u,x,y,h,c=>⟨h,c⟩
 | a::b::t,u,x,y,h,c=>⟨h.1,uu (b::t) u x.2 y h.2 c⟩
def offF (ok:TypeId->Bool) (b:TypeId->Nat) (a:Nat):Nat->List Field->Bool
 | o,[]=>Nat.beq o a
 | o,f::l=>Nat.beq f.offset o&&(ok f.type&&offF ok b a (o+b f.type) l)
def BX (P:Program):Nat->TypeId->Bool
 | 0,_=>false
 | d+1,t=>match P.underlying t with
  | some (.int _)=>true
  | some .bool=>true
  | some .string=>true
  | some (.array n e)=>BX P d e&&Nat.beq (P.cellsOf t) (n*P.cellsOf e)
  | some (.struct a)=>offF (BX P d) P.cellsOf (P.cellsOf t) 0 a.toList
  | _=>false
section
variable {H:Type} {enc:TypeId×Value->H} {P:Program} {w:World} {base:Nat} {spare:Nat->Bool} {held:Bool}
theorem wO {α:Type} (a:List α) (o n:Nat):a.drop o=(a.drop o).take n++a.drop (o+n):=by
 rw [<-iV];exact (qj n _).symm
theorem wz {d fuel:Nat} (ih:∀{e:TypeId} {tr:List Lf} {g:List Value} {x:DataW H×List MemPlace},sA P d e=some tr->BX P d e=true->DataW.trod enc P w base spare held fuel e g=some x->∃r:den tr,g=vals tr r/\uy tr r)
  (g:List Value):∀(h:List Field) (o:Nat) (tr:List Lf) (l:List (DataW H×List MemPlace)),H6 (sA P d) h=some tr->offF (BX P d) P.cellsOf g.length o h=true->
   (h.mapM λf=>DataW.trod enc P w base spare held fuel f.type ((g.drop f.offset).take (P.cellsOf f.type)))=some l->∃r:den tr,g.drop o=vals tr r/\uy tr r
 | [],o,tr,l,c,j,i=>by
  simp only [H6,ah] at c;subst c;have:=be j;exact ⟨(),by rw [this];simp [vals],trivial⟩
 | f::h,o,tr,l,c,j,i=>by
  simp only [H6] at c;split at c
  case h_2=>cases c
  rename_i a q;split at c
  case h_2=>cases c
  rename_i b z;simp only [ah] at c;subst c;simp only [offF,az] at j;obtain ⟨k,t,B⟩:=j;have k:=be k;subst k;rw [yf] at i;simp only [Option.bind_eq_bind,JW] at i;obtain ⟨y,hy,A,m,_⟩:=i;obtain ⟨p,v,C⟩:=ih q t hy;obtain ⟨n,s,u⟩:=wz ih g h _ b A z B m;exact ⟨wu a b p n,by rw [qw,<-v,<-s];exact wO g _ _,uu a b p n C u⟩
theorem AG {b:Nat} {l:List Lf} {e:TypeId} {fuel:Nat} (ih:∀{a:List Value} {x:DataW H×List MemPlace},DataW.trod enc P w base spare held fuel e a=some x->∃r:den l,a=vals l r/\uy l r)
  (a:List Value) (z:Nat) (p:a.length=b*z):∀(n i:Nat),i+n=b->(∀j,i<=j->j<b->∃y,DataW.trod enc P w base spare held fuel e ((a.drop (j*z)).take z)=some y)->∃r:den (repL n l),a.drop (i*z)=vals (repL n l) r/\uy (repL n l) r
 | 0,i,hi,_=>by
  have:i=b:=by omega
  subst this;exact ⟨(),by rw [kP (by omega)];rfl,trivial⟩
 | n+1,i,hi,h=>by
  obtain ⟨y,hy⟩:=h i (by omega) (by omega);obtain ⟨c,o,f⟩:=ih hy;obtain ⟨d,m,g⟩:=AG ih a z p n (i+1) (by omega) (λj q k=>h j (by omega) k);refine ⟨wu l (repL n l) c d,?_,uu _ _ c d f g⟩;show _=vals (l++repL n l) _;rw [qw,<-o,<-m,Nat.succ_mul];exact wO a _ _
theorem xO:∀(d fuel:Nat) {e:TypeId} {tr:List Lf} {o:List Value} {x:DataW H×List MemPlace},sA P d e=some tr->BX P d e=true->
  DataW.trod enc P w base spare held fuel e o=some x->∃r:den tr,o=vals tr r/\uy tr r
 | 0,_,_,_,_,_,h,_,_=>by simp [sA] at h
 | _+1,0,_,_,_,_,_,_,h=>by simp [DataW.trod] at h
 | d+1,fuel+1,e,tr,o,x,a,g,c=>by
  unfold sA at a;unfold BX at g;cases i:P.underlying e with
  | none=>rw [i] at a;cases a
  | some p=>
   rw [i] at a g;cases p with
   | int k=>
    simp only [ah] at a;subst a;obtain ⟨m,rfl,_,F⟩:=DataW.trod_int i c;exact ⟨m,rfl,F⟩
   | bool=>
    simp only [ah] at a;subst a;obtain ⟨b,rfl,_⟩:=DataW.trod_bool i c;exact ⟨b,rfl,trivial⟩
   | string=>
    simp only [ah] at a;subst a;obtain ⟨s,rfl,_,hs⟩:=DataW.trod_string i c;exact ⟨s.data.toList,by simp [vals,Lf.val],hs⟩
   | array n z=>
    simp only at a g;split at a
    case h_2=>cases a
    rename_i l _ G;simp only [ah] at a;subst a;simp only [az] at g;have D:=be g.2;unfold DataW.trod at c;rw [i] at c;simp only at c;split at c
    case isFalse=>cases c
    rename_i f;simp only [Option.map_eq_some_iff] at c;obtain ⟨v,q,_⟩:=c
    have:=AG (fuel:=fuel) (l:=l) (e:=z) (λh=>xO d fuel G g.1 h) o (P.cellsOf z) (by rw [f,D]) n 0 (by omega) (λj _ A=>by
     have y:=mapM_some_get q j j (by simp [A]);have t:=mapM_some_length q;have u:j<v.length:=by rw [t];simpa using A
     rw [bG u] at y;exact ⟨_,y⟩)
    simpa using this
   | struct B=>
    simp only at a g;unfold DataW.trod at c;rw [i] at c;simp only at c;split at c
    case isFalse=>cases c
    rename_i f;simp only [Option.map_eq_some_iff] at c;obtain ⟨v,q,_⟩:=c;have:=wz (d:=d) (fuel:=fuel) (λC E hc=>xO d fuel C E hc) o B.toList 0 tr v a (by rw [f];exact g) q;simpa using this
   | _=>cases a
theorem Ju {d:Nat} {t:TypeId} {tr:List Lf} {v:Value} {b:DataW H} {a:List MemPlace} (c:sA P d t=some tr) (g:BX P d t=true) (f:DataW.Trod enc P w base spare held t v b a):
  ∃r:den tr,v.cells.toList=vals tr r/\uy tr r:=by
 obtain ⟨fuel,e⟩:=f;exact xO d fuel c g e
end
section
variable {H:Type} {enc:TypeId×Value->H} {P:Program} {w:World} {held:Bool}
theorem yz {t:TypeId} {c:Array Field} {v:Value} {r:Reach} {b0:Nat} {l:List Value} (b:P.underlying t=some (.struct c)) (a:Value.okWide P w r b0 t v) (h:v.cells.toList=l):v=.agg l.toArray:=by
 simp only [Value.okWide,b] at a;obtain ⟨d,rfl,_⟩:=a;subst h;simp [Value.cells]
end
end Go.Abs
