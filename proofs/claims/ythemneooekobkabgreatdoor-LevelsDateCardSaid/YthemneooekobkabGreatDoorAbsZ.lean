
/- Opening a law's arguments: rows of numbers, bools and strings; slices of such rows.
   Conditions: none; generic over the program. -/
import Derived.Test.YthemneooekobkabGreatDoorAbsY
set_option linter.unusedSimpArgs false
set_option linter.unusedVariables false
namespace Go.Abs
open Go.RowKit Go.ChangeShapes Go.WideShapes
def Lf.wf:(a:Lf)->a.den->Prop
 | .i k,n=>(Lit.int k n).wf=true
 | .bo,_=>True
 | .s,l=>l.length<=maxLen
def vP:(t:List Lf)->den t->Prop
 | [],_=>True
 | [a],x=>a.wf x
 | a::b::l,x=>a.wf x.1/\vP (b::l) x.2
def Ag:(t u:List Lf)->den t->den u->den (t++u)
 | [],_,_,y=>y
 | [a],[],x,_=>x
 | [a],b::u,x,y=>(x,y)
 | a::b::t,u,x,y=>(x.1,Ag (b::t) u x.2 y)
theorem tj:∀(t u:List Lf) (x:den t) (y:den u),vals (t++u) (Ag t u x y)=vals t x++vals u y
 | [],u,x,y=>rfl
 | [a],[],x,y=>rfl
 | [a],b::u,x,y=>rfl
 | a::b::t,u,x,y=>by
  show a.val x.1::vals (b::t++u) (Ag (b::t) u x.2 y)=_;rw [tj (b::t) u x.2 y];rfl
theorem yz:∀(t u:List Lf) (x:den t) (y:den u),vP t x->vP u y->vP (t++u) (Ag t u x y)
 | [],u,x,y,_,h=>h
 | [a],[],x,y,h,_=>h
 | [a],b::u,x,y,h,c=>⟨h,c⟩
 | a::b::t,u,x,y,h,c=>⟨h.1,yz (b::t) u x.2 y h.2 c⟩
def offF (ok:TypeId->Bool) (b:TypeId->Nat) (a:Nat):Nat->List Field->Bool
 | o,[]=>Nat.beq o a
 | o,f::l=>Nat.beq f.offset o&&(ok f.type&&offF ok b a (o+b f.type) l)
def Gf (P:Program):Nat->TypeId->Bool
 | 0,_=>false
 | d+1,t=>match P.underlying t with
  | some (.int _)=>true
  | some .bool=>true
  | some .string=>true
  | some (.array n e)=>Gf P d e&&Nat.beq (P.cellsOf t) (n*P.cellsOf e)
  | some (.struct a)=>offF (Gf P d) P.cellsOf (P.cellsOf t) 0 a.toList
  | _=>false
section
variable {H:Type} {enc:TypeId×Value->H} {P:Program} {w:World} {base:Nat} {spare:Nat->Bool} {held:Bool}
theorem zo {α:Type} (a:List α) (o n:Nat):a.drop o=(a.drop o).take n++a.drop (o+n):=by
 rw [<-jg];exact (tD n _).symm
theorem zu {d fuel:Nat} (ih:∀{e:TypeId} {tr:List Lf} {g:List Value} {x:DataW H×List MemPlace},vQ P d e=some tr->Gf P d e=true->DataW.trod enc P w base spare held fuel e g=some x->∃r:den tr,g=vals tr r/\vP tr r)
  (g:List Value):∀(h:List Field) (o:Nat) (tr:List Lf) (l:List (DataW H×List MemPlace)),Lh (vQ P d) h=some tr->offF (Gf P d) P.cellsOf g.length o h=true->
   (h.mapM λf=>DataW.trod enc P w base spare held fuel f.type ((g.drop f.offset).take (P.cellsOf f.type)))=some l->∃r:den tr,g.drop o=vals tr r/\vP tr r
 | [],o,tr,l,c,j,i=>by
  simp only [Lh,av] at c;subst c;have:=bC j;exact ⟨(),by rw [this];simp [vals],trivial⟩
 | f::h,o,tr,l,c,j,i=>by
  simp only [Lh] at c;split at c
  case h_2=>cases c
  rename_i a C;split at c
  case h_2=>cases c
  rename_i b B;simp only [av] at c;subst c;simp only [offF,aA] at j;obtain ⟨m,q,s⟩:=j;have m:=bC m;subst m;rw [BJ] at i;simp only [Option.bind_eq_bind,Ly] at i;obtain ⟨y,hy,t,k,_⟩:=i;obtain ⟨n,v,A⟩:=ih C q hy;obtain ⟨p,u,z⟩:=zu ih g h _ b t B s k;exact ⟨Ag a b n p,by rw [tj,<-v,<-u];exact zo g _ _,yz a b n p A z⟩
theorem DJ {b:Nat} {l:List Lf} {e:TypeId} {fuel:Nat} (ih:∀{a:List Value} {x:DataW H×List MemPlace},DataW.trod enc P w base spare held fuel e a=some x->∃r:den l,a=vals l r/\vP l r)
  (a:List Value) (z:Nat) (g:a.length=b*z):∀(n i:Nat),i+n=b->(∀j,i<=j->j<b->∃y,DataW.trod enc P w base spare held fuel e ((a.drop (j*z)).take z)=some y)->∃r:den (repL n l),a.drop (i*z)=vals (repL n l) r/\vP (repL n l) r
 | 0,i,hi,_=>by
  have:i=b:=by omega
  subst this;exact ⟨(),by rw [jE (by omega)];rfl,trivial⟩
 | n+1,i,hi,h=>by
  obtain ⟨y,hy⟩:=h i (by omega) (by omega);obtain ⟨d,p,k⟩:=ih hy;obtain ⟨c,o,f⟩:=DJ ih a z g n (i+1) (by omega) (λj q m=>h j (by omega) m);refine ⟨Ag l (repL n l) d c,?_,yz _ _ d c k f⟩;show _=vals (l++repL n l) _;rw [tj,<-p,<-o,Nat.succ_mul];exact zo a _ _
theorem AS:∀(d fuel:Nat) {e:TypeId} {tr:List Lf} {p:List Value} {x:DataW H×List MemPlace},vQ P d e=some tr->Gf P d e=true->
  DataW.trod enc P w base spare held fuel e p=some x->∃r:den tr,p=vals tr r/\vP tr r
 | 0,_,_,_,_,_,h,_,_=>by simp [vQ] at h
 | _+1,0,_,_,_,_,_,_,h=>by simp [DataW.trod] at h
 | d+1,fuel+1,e,tr,p,x,a,g,c=>by
  unfold vQ at a;unfold Gf at g;cases i:P.underlying e with
  | none=>rw [i] at a;cases a
  | some o=>
   rw [i] at a g;cases o with
   | int k=>
    simp only [av] at a;subst a;obtain ⟨m,rfl,_,B⟩:=DataW.trod_int i c;exact ⟨m,rfl,B⟩
   | bool=>
    simp only [av] at a;subst a;obtain ⟨b,rfl,_⟩:=DataW.trod_bool i c;exact ⟨b,rfl,trivial⟩
   | string=>
    simp only [av] at a;subst a;obtain ⟨s,rfl,_,hs⟩:=DataW.trod_string i c;exact ⟨s.data.toList,by simp [vals,Lf.val],hs⟩
   | array n y=>
    simp only at a g;split at a
    case h_2=>cases a
    rename_i l _ D;simp only [av] at a;subst a;simp only [aA] at g;have F:=bC g.2;unfold DataW.trod at c;rw [i] at c;simp only at c;split at c
    case isFalse=>cases c
    rename_i f;simp only [Option.map_eq_some_iff] at c;obtain ⟨t,q,_⟩:=c
    have:=DJ (fuel:=fuel) (l:=l) (e:=y) (λh=>AS d fuel D g.1 h) p (P.cellsOf y) (by rw [f,F]) n 0 (by omega) (λj _ z=>by
     have A:=mapM_some_get q j j (by simp [z]);have v:=mapM_some_length q;have u:j<t.length:=by rw [v];simpa using z
     rw [bh u] at A;exact ⟨_,A⟩)
    simpa using this
   | struct C=>
    simp only at a g;unfold DataW.trod at c;rw [i] at c;simp only at c;split at c
    case isFalse=>cases c
    rename_i f;simp only [Option.map_eq_some_iff] at c;obtain ⟨t,q,_⟩:=c;have:=zu (d:=d) (fuel:=fuel) (λG E hc=>AS d fuel G E hc) p C.toList 0 tr t a (by rw [f];exact g) q;simpa using this
   | _=>cases a
theorem Dt {d:Nat} {t:TypeId} {tr:List Lf} {v:Value} {g:DataW H} {b:List MemPlace} (a:vQ P d t=some tr) (f:Gf P d t=true) (c:DataW.Trod enc P w base spare held t v g b):
  ∃r:den tr,v.cells.toList=vals tr r/\vP tr r:=by
 obtain ⟨fuel,e⟩:=c;exact AS d fuel a f e
end
section
variable {H:Type} {enc:TypeId×Value->H} {P:Program} {w:World} {held:Bool}
theorem tZ {t:TypeId} {c:Array Field} {v:Value} {r:Reach} {b0:Nat} {l:List Value} (b:P.underlying t=some (.struct c)) (a:Value.okWide P w r b0 t v) (h:v.cells.toList=l):v=.agg l.toArray:=by
 simp only [Value.okWide,b] at a;obtain ⟨d,rfl,_⟩:=a;subst h;simp [Value.cells]
end
end Go.Abs
