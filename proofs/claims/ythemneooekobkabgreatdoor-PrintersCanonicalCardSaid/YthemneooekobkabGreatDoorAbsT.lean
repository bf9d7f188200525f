
/- Functions of the library that are met by a contract of the kit's shelf.
   Conditions: none; generic over the program. -/
import Derived.Test.YthemneooekobkabGreatDoorAbsX
import Derived.Lib.Join
set_option linter.unusedSimpArgs false
set_option linter.unusedVariables false
namespace Go.Abs
open Go.RowKit
variable {P:Program}
theorem Below.fr {w w':World} (h:Below w.heap.size w w'):Fr ip w w':=⟨h.os,h.tape,h.output,h.size,λk C _=>h.block k C⟩
theorem gn {f:Nat} {args:List V} {H:List (Nat×Blk)} {fr:Nat} {v:V} {rd:List Nat}
  (h:∀(ι:Inj) (nb:Nat) (w:World) (d:Array Value),WR ι H nb w->GL ip w->VRs ι args d.toList->Calls P f d w λe w'=>∃x,e=.returned x/\VR ι v x/\Below w.heap.size w w'):
  Hw P f args H fr { val:=v,rd:=rd }:=by
 intro ι nb w d c s _ _ hx;refine (h ι nb w d c (s.mono λb q h=>by cases h) hx).mono λe w' ⟨x,g,j,a⟩=>?_;subst g;have a:=Below.fr a;have m:=a.size;refine ⟨ι,λ_ _ _=>rfl,λb q g=>by simp [isIn] at g,λb q g j=>by simp at j;omega,λ_ _ h _=>h,?_,?_,rfl,j⟩
 ·simp only [dW,ul];refine ⟨c.inj,λb r i=>?_,λb r i=>?_,λb blk p o=>?_⟩
  ·have:=c.low b r i;omega
  ·have:=c.dom b r i;omega
  ·exact (c.blk b blk p o).map rfl (λq n=>a.blk q.r (c.dom b q n) (λ_ _ h=>by cases h)) (λ_ _ x=>x) (λ_ x=>x)
 ·exact ⟨a.os,a.tape,a.output,a.size,λk l _=>a.blk k l (λ_ _ h=>by cases h)⟩
def RJ (f:Nat):Ent:=⟨f,λ_ args H _ k=>match args with
 | [.ws b,.s a]=>match look H b with
  | some (.rows t l)=>ob (mu t [.s] l) λl=>cond (Nat.ble l.length 140737488355328&&Nat.ble (Lib.join l a).length 140737488355328) (k { val:=.s (Lib.join l a),rd:=[b] }) none
  | _=>none
 | [.sn,.s _]=>k { val:=.s [] }
 | _=>none⟩
theorem QK:∀l:List (aa),l.flatMap (vals [.s])=l.map λs=>Value.string ⟨s.toArray⟩
 | []=>rfl
 | x::l=>by rw [qx,QK l];rfl
theorem Qn {f:Nat} (C:kV P f)
  (hN:∀(a:Option Addr) (c:Nat) (d:ByteArray) (w:World),Calls P f #[.slice a 0 c,.string d] w λe w'=>e=.returned (.string ⟨#[]⟩)/\w'=w)
  (hJ:∀(bk o c:Nat) (A:List ByteArray) (d:ByteArray) (w:World) (_:∀(j:Nat) x,A[j]?=some x->w.cell? ⟨bk,o+j,none⟩=some (.string x)) (_:bk<w.heap.size) (_:A.length<=140737488355328) (_:A.length<=c)
   (_:(Lib.join (A.map (·.data.toList)) d.data.toList).length<=140737488355328),
   Calls P f #[.slice (some ⟨bk,o,none⟩) A.length c,.string d] w λe w'=>e=.returned (.string ⟨(Lib.join (A.map (·.data.toList)) d.data.toList).toArray⟩)/\Below w.heap.size w w'):fH P (RJ f):=by
 intro α args H fr k z h;simp only [RJ] at h;have p:∀(a:Option Addr) (c:Nat) (d:aa) (w:World),Calls P f #[.slice a 0 c,.string ⟨d.toArray⟩] w λe w'=>∃x,e=.returned x/\VR ip (.s []) x/\Below w.heap.size w w':=λa c d w=>
  (hN a c ⟨d.toArray⟩ w).mono λe w' ⟨Q,S⟩=>⟨_,Q,by simp [VR],S▸Below.refl _ _⟩
 split at h
 ·rename_i b d;split at h
  case h_2=>cases h
  rename_i t l hl;obtain ⟨m,Q,S⟩:=av h;obtain ⟨e0,E⟩:=nl Q;subst e0;have E:=E.symm;subst E;obtain ⟨L,h4⟩:=dY S;simp only [aA] at L;have h5:=aI L.1;have h6:=aI L.2;refine ⟨_,h4,λY X=>.inl ⟨C,gn λι nb w A U _ hx=>?_⟩⟩;have hl':look Y b=some (.rows [.s] l):=by rw [X b (by simp)];exact hl
  have hb:=U.blk b _ hl' (by simp);have R:∃v,A=#[v,.string ⟨d.toArray⟩]/\VR ι (.ws b) v:=by
   simp only [VRs] at hx;obtain ⟨y,ys,B,D,y2,O,I,Z,e5⟩:=hx;subst e5 I;simp only [VR] at Z;subst Z;exact ⟨y,by apply lG;simpa using B,D⟩
  obtain ⟨v,rfl,T⟩:=R;simp only [VR] at T;rcases hb with ⟨q,o,K,V,M⟩ | ⟨K,t,G⟩
  ·rcases T with ⟨q',g,rfl⟩ | ⟨g,_⟩
   case inr=>rw [K] at g;cases g
   rw [K] at g;simp only [au] at g;subst g;obtain ⟨cs,e,fz,rfl,W,g2,g3,g4,_⟩:=M;have i:(l.map λs=>(⟨s.toArray⟩:ByteArray)).length=q.n:=by rw [u0,W]
   have u:(l.map λs=>(⟨s.toArray⟩:ByteArray)).map (·.data.toList)=l:=by
    rw [tz]
    conv=>rhs;rw [<-List.map_id l]
    apply List.map_congr_left;intro s _;simp
   have:=hJ q.r q.o q.k (l.map λs=>(⟨s.toArray⟩:ByteArray)) ⟨d.toArray⟩ w (λj x F=>by
    rw [bu V,<-qG];have hj':j<l.length:=by
     have:=(re.1 F).1;simpa using this
    have g4':(cs.toList.drop q.o).take l.length=(show List (aa) from l).map λs=>Value.string ⟨s.toArray⟩:=by
     rw [<-QK];simpa using g4
    have N:=bY (λz=>z[j]?) g4';simp only at N;rw [qC hj',mZ] at N;rw [N,m8];rw [m8] at F;cases J:l[j]? with
    | none=>rw [J] at F;cases F
    | some s=>rw [J] at F;simp only [fc,au] at F ⊢;rw [F]) (sd V) (by rw [i,<-W];exact h5) (by rw [i];exact g2) (by rw [u];simpa using h6)
   rw [i] at this;refine this.mono λe w' ⟨B,D⟩=>⟨_,B,?_,D⟩;rw [u];simp [VR]
  ·simp only [Blk.rows.injEq] at G;obtain ⟨rfl,G⟩:=G;have G:=eq_of_heq G;subst G;rcases T with ⟨q',g,_⟩ | ⟨_,a,rfl⟩
   ·rw [K] at g;cases g
   ·refine (p a 0 d w).mono λe w' ⟨x,B,D,I⟩=>⟨x,B,?_,I⟩;simpa [VR,Lib.join,List.intercalate] using D
 ·rename_i d;refine ⟨_,h,λY X=>.inl ⟨C,gn λι nb w A U _ hx=>?_⟩⟩;simp only [VRs,VR] at hx;obtain ⟨y,ys,B,rfl,y2,O,rfl,rfl,rfl⟩:=hx;have:A=#[.slice none 0 0,.string ⟨d.toArray⟩]:=by apply lG;simpa using B
  subst this;exact (p none 0 d w).mono λe w' ⟨x,B,D,I⟩=>⟨x,B,by simpa [VR] using D,I⟩
 ·cases h
end Go.Abs
