
/- Functions of the library that are met by a contract of the kit's shelf.
   Conditions: none; generic over the program. -/
import Derived.Test.YtfiponokimbeeaaGreatDoorAbsX
import Derived.Lib.Join
set_option linter.unusedSimpArgs false
set_option linter.unusedVariables false
namespace Go.Abs
open Go.RowKit
variable {P:Program}
theorem Below.fr {w w':World} (h:Below w.heap.size w w'):Fr ie w w':=⟨h.os,h.tape,h.output,h.size,λk C _=>h.block k C⟩
theorem gi {f:Nat} {args:List V} {H:List (Nat×Blk)} {fr:Nat} {v:V} {rd:List Nat}
  (h:∀(ι:Inj) (nb:Nat) (w:World) (g:Array Value),WR ι H nb w->GL ie w->VRs ι args g.toList->Calls P f g w λe w'=>∃x,e=.returned x/\VR ι v x/\Below w.heap.size w w'):
  GW P f args H fr { val:=v,rd:=rd }:=by
 intro ι nb w g c n _ _ hx;refine (h ι nb w g c (n.mono λb q h=>by cases h) hx).mono λe w' ⟨x,d,j,a⟩=>?_;subst d;have a:=Below.fr a;have m:=a.size;refine ⟨ι,λ_ _ _=>rfl,λb q d=>by simp [isIn] at d,λb q d j=>by simp at j;omega,λ_ _ h _=>h,?_,?_,rfl,j⟩
 ·simp only [eK,tJ];refine ⟨c.inj,λb r i=>?_,λb r i=>?_,λb blk o s=>?_⟩
  ·have:=c.low b r i;omega
  ·have:=c.dom b r i;omega
  ·exact (c.blk b blk o s).map rfl (λq l=>a.blk q.r (c.dom b q l) (λ_ _ h=>by cases h)) (λ_ _ x=>x) (λ_ x=>x)
 ·exact ⟨a.os,a.tape,a.output,a.size,λk p _=>a.blk k p (λ_ _ h=>by cases h)⟩
def SV (f:Nat):Ent:=⟨f,λ_ args H _ k=>match args with
 | [.ws b,.s a]=>match look H b with
  | some (.rows t l)=>ob (l7 t [.s] l) λl=>cond (Nat.ble l.length 140737488355328&&Nat.ble (Lib.join l a).length 140737488355328) (k { val:=.s (Lib.join l a),rd:=[b] }) none
  | _=>none
 | [.sn,.s _]=>k { val:=.s [] }
 | _=>none⟩
theorem QZ:∀l:List (aa),l.flatMap (vals [.s])=l.map λs=>Value.string ⟨s.toArray⟩
 | []=>rfl
 | x::l=>by rw [qi,QZ l];rfl
theorem Ov {f:Nat} (C:kT P f)
  (hN:∀(a:Option Addr) (c:Nat) (d:ByteArray) (w:World),Calls P f #[.slice a 0 c,.string d] w λe w'=>e=.returned (.string ⟨#[]⟩)/\w'=w)
  (hJ:∀(bk o c:Nat) (A:List ByteArray) (d:ByteArray) (w:World) (_:∀(j:Nat) x,A[j]?=some x->w.cell? ⟨bk,o+j,none⟩=some (.string x)) (_:bk<w.heap.size) (_:A.length<=140737488355328) (_:A.length<=c)
   (_:(Lib.join (A.map (·.data.toList)) d.data.toList).length<=140737488355328),
   Calls P f #[.slice (some ⟨bk,o,none⟩) A.length c,.string d] w λe w'=>e=.returned (.string ⟨(Lib.join (A.map (·.data.toList)) d.data.toList).toArray⟩)/\Below w.heap.size w w'):fF P (SV f):=by
 intro α args H fr k z h;simp only [SV] at h;have p:∀(a:Option Addr) (c:Nat) (d:aa) (w:World),Calls P f #[.slice a 0 c,.string ⟨d.toArray⟩] w λe w'=>∃x,e=.returned x/\VR ie (.s []) x/\Below w.heap.size w w':=λa c d w=>
  (hN a c ⟨d.toArray⟩ w).mono λe w' ⟨L,O⟩=>⟨_,L,by simp [VR],O▸Below.refl _ _⟩
 split at h
 ·rename_i b d;split at h
  case h_2=>cases h
  rename_i t l hl;obtain ⟨m,L,O⟩:=av h;obtain ⟨e0,D⟩:=mU L;subst e0;have D:=D.symm;subst D;obtain ⟨R,h4⟩:=dZ O;simp only [az] at R;have h5:=aI R.1;have h6:=aI R.2;refine ⟨_,h4,λW V=>.inl ⟨C,gi λι nb w A Z _ hx=>?_⟩⟩;have hl':look W b=some (.rows [.s] l):=by rw [V b (by simp)];exact hl
  have hb:=Z.blk b _ hl' (by simp);have T:∃v,A=#[v,.string ⟨d.toArray⟩]/\VR ι (.ws b) v:=by
   simp only [VRs] at hx;obtain ⟨y,ys,B,F,y2,M,J,X,e5⟩:=hx;subst e5 J;simp only [VR] at X;subst X;exact ⟨y,by apply ll;simpa using B,F⟩
  obtain ⟨v,rfl,N⟩:=T;simp only [VR] at N;rcases hb with ⟨q,o,K,U,Q⟩ | ⟨K,t,G⟩
  ·rcases N with ⟨q',g,rfl⟩ | ⟨g,_⟩
   case inr=>rw [K] at g;cases g
   rw [K] at g;simp only [au] at g;subst g;obtain ⟨cs,e,fz,rfl,Y,g2,g3,g4,_⟩:=Q;have i:(l.map λs=>(⟨s.toArray⟩:ByteArray)).length=q.n:=by rw [uV,Y]
   have u:(l.map λs=>(⟨s.toArray⟩:ByteArray)).map (·.data.toList)=l:=by
    rw [sJ]
    conv=>rhs;rw [<-List.map_id l]
    apply List.map_congr_left;intro s _;simp
   have:=hJ q.r q.o q.k (l.map λs=>(⟨s.toArray⟩:ByteArray)) ⟨d.toArray⟩ w (λj x E=>by
    rw [bp U,<-qk];have hj':j<l.length:=by
     have:=(qR.1 E).1;simpa using this
    have g4':(cs.toList.drop q.o).take l.length=(show List (aa) from l).map λs=>Value.string ⟨s.toArray⟩:=by
     rw [<-QZ];simpa using g4
    have S:=ch (λz=>z[j]?) g4';simp only at S;rw [qf hj',mL] at S;rw [S,mO];rw [mO] at E;cases I:l[j]? with
    | none=>rw [I] at E;cases E
    | some s=>rw [I] at E;simp only [eX,au] at E ⊢;rw [E]) (rJ U) (by rw [i,<-Y];exact h5) (by rw [i];exact g2) (by rw [u];simpa using h6)
   rw [i] at this;refine this.mono λe w' ⟨B,F⟩=>⟨_,B,?_,F⟩;rw [u];simp [VR]
  ·simp only [Blk.rows.injEq] at G;obtain ⟨rfl,G⟩:=G;have G:=eq_of_heq G;subst G;rcases N with ⟨q',g,_⟩ | ⟨_,a,rfl⟩
   ·rw [K] at g;cases g
   ·refine (p a 0 d w).mono λe w' ⟨x,B,F,J⟩=>⟨x,B,?_,J⟩;simpa [VR,Lib.join,List.intercalate] using F
 ·rename_i d;refine ⟨_,h,λW V=>.inl ⟨C,gi λι nb w A Z _ hx=>?_⟩⟩;simp only [VRs,VR] at hx;obtain ⟨y,ys,B,rfl,y2,M,rfl,rfl,rfl⟩:=hx;have:A=#[.slice none 0 0,.string ⟨d.toArray⟩]:=by apply ll;simpa using B
  subst this;exact (p none 0 d w).mono λe w' ⟨x,B,F,J⟩=>⟨x,B,by simpa [VR] using F,J⟩
 ·cases h
end Go.Abs
