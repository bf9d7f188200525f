
/- Functions of the library that are met by a contract of the kit's shelf.
   Conditions: none; generic over the program. -/
import Derived.Test.YthemneooekobkaaGreatDoorAbsX
import Derived.Lib.Join
set_option linter.unusedSimpArgs false
set_option linter.unusedVariables false
namespace Go.Abs
open Go.RowKit
variable {P:Program}
theorem Below.fr {w w':World} (h:Below w.heap.size w w'):Fr fm w w':=⟨h.os,h.tape,h.output,h.size,λk A _=>h.block k A⟩
theorem eS {f:Nat} {args:List V} {H:List (Nat×Blk)} {fr:Nat} {v:V} {rd:List Nat}
  (h:∀(ι:Inj) (nb:Nat) (w:World) (d:Array Value),WR ι H nb w->GL fm w->VRs ι args d.toList->Calls P f d w λe w'=>∃x,e=.returned x/\VR ι v x/\Below w.heap.size w w'):
  Fe P f args H fr { val:=v,rd:=rd }:=by
 intro ι nb w d c n _ _ hx;refine (h ι nb w d c (n.mono λb q h=>by cases h) hx).mono λe w' ⟨x,g,j,a⟩=>?_;subst g;have a:=Below.fr a;have s:=a.size;refine ⟨ι,λ_ _ _=>rfl,λb q g=>by simp [isIn] at g,λb q g j=>by simp at j;omega,λ_ _ h _=>h,?_,?_,rfl,j⟩
 ·simp only [ij,rL];refine ⟨c.inj,λb r i=>?_,λb r i=>?_,λb blk m l=>?_⟩
  ·have:=c.low b r i;omega
  ·have:=c.dom b r i;omega
  ·exact (c.blk b blk m l).map rfl (λq p=>a.blk q.r (c.dom b q p) (λ_ _ h=>by cases h)) (λ_ _ x=>x) (λ_ x=>x)
 ·exact ⟨a.os,a.tape,a.output,a.size,λk o _=>a.blk k o (λ_ _ h=>by cases h)⟩
def Pj (f:Nat):Ent:=⟨f,λ_ args H _ k=>match args with
 | [.ws b,.s a]=>match look H b with
  | some (.rows t l)=>ob (kH t [.s] l) λl=>cond (Nat.ble l.length 140737488355328&&Nat.ble (Lib.join l a).length 140737488355328) (k { val:=.s (Lib.join l a),rd:=[b] }) none
  | _=>none
 | [.sn,.s _]=>k { val:=.s [] }
 | _=>none⟩
theorem Nq:∀l:List (aa),l.flatMap (vals [.s])=l.map λs=>Value.string ⟨s.toArray⟩
 | []=>rfl
 | x::l=>by rw [m8,Nq l];rfl
theorem Lc {f:Nat} (C:jD P f)
  (hN:∀(a:Option Addr) (c:Nat) (d:ByteArray) (w:World),Calls P f #[.slice a 0 c,.string d] w λe w'=>e=.returned (.string ⟨#[]⟩)/\w'=w)
  (hJ:∀(bk o c:Nat) (A:List ByteArray) (d:ByteArray) (w:World) (_:∀(j:Nat) x,A[j]?=some x->w.cell? ⟨bk,o+j,none⟩=some (.string x)) (_:bk<w.heap.size) (_:A.length<=140737488355328) (_:A.length<=c)
   (_:(Lib.join (A.map (·.data.toList)) d.data.toList).length<=140737488355328),
   Calls P f #[.slice (some ⟨bk,o,none⟩) A.length c,.string d] w λe w'=>e=.returned (.string ⟨(Lib.join (A.map (·.data.toList)) d.data.toList).toArray⟩)/\Below w.heap.size w w'):ek P (Pj f):=by
 intro α args H fr k z h;simp only [Pj] at h;have u:∀(a:Option Addr) (c:Nat) (d:aa) (w:World),Calls P f #[.slice a 0 c,.string ⟨d.toArray⟩] w λe w'=>∃x,e=.returned x/\VR fm (.s []) x/\Below w.heap.size w w':=λa c d w=>
  (hN a c ⟨d.toArray⟩ w).mono λe w' ⟨T,S⟩=>⟨_,T,by simp [VR],S▸Below.refl _ _⟩
 split at h
 ·rename_i b d;split at h
  case h_2=>cases h
  rename_i t l hl;obtain ⟨m,T,S⟩:=au h;obtain ⟨e0,F⟩:=lG T;subst e0;have F:=F.symm;subst F;obtain ⟨L,h4⟩:=dk S;simp only [ay] at L;have h5:=aD L.1;have h6:=aD L.2;refine ⟨_,h4,λZ Y=>.inl ⟨C,eS λι nb w A W _ hx=>?_⟩⟩;have hl':look Z b=some (.rows [.s] l):=by rw [Y b (by simp)];exact hl
  have hb:=W.blk b _ hl' (by simp);have N:∃v,A=#[v,.string ⟨d.toArray⟩]/\VR ι (.ws b) v:=by
   simp only [VRs] at hx;obtain ⟨y,ys,B,D,y2,Q,J,U,e5⟩:=hx;subst e5 J;simp only [VR] at U;subst U;exact ⟨y,by apply jZ;simpa using B,D⟩
  obtain ⟨v,rfl,R⟩:=N;simp only [VR] at R;rcases hb with ⟨q,o,K,X,M⟩ | ⟨K,t,G⟩
  ·rcases R with ⟨q',g,rfl⟩ | ⟨g,_⟩
   case inr=>rw [K] at g;cases g
   rw [K] at g;simp only [am] at g;subst g;obtain ⟨cs,e,fz,rfl,V,g2,g3,g4,_⟩:=M;have i:(l.map λs=>(⟨s.toArray⟩:ByteArray)).length=q.n:=by rw [sF,V]
   have p:(l.map λs=>(⟨s.toArray⟩:ByteArray)).map (·.data.toList)=l:=by
    rw [qu]
    conv=>rhs;rw [<-List.map_id l]
    apply List.map_congr_left;intro s _;simp
   have:=hJ q.r q.o q.k (l.map λs=>(⟨s.toArray⟩:ByteArray)) ⟨d.toArray⟩ w (λj x E=>by
    rw [aX X,<-nW];have hj':j<l.length:=by
     have:=(om.1 E).1;simpa using this
    have g4':(cs.toList.drop q.o).take l.length=(show List (aa) from l).map λs=>Value.string ⟨s.toArray⟩:=by
     rw [<-Nq];simpa using g4
    have O:=gf (λz=>z[j]?) g4';simp only at O;rw [oc hj',ke] at O;rw [O,mz];rw [mz] at E;cases I:l[j]? with
    | none=>rw [I] at E;cases E
    | some s=>rw [I] at E;simp only [ee,am] at E ⊢;rw [E]) (mS X) (by rw [i,<-V];exact h5) (by rw [i];exact g2) (by rw [p];simpa using h6)
   rw [i] at this;refine this.mono λe w' ⟨B,D⟩=>⟨_,B,?_,D⟩;rw [p];simp [VR]
  ·simp only [Blk.rows.injEq] at G;obtain ⟨rfl,G⟩:=G;have G:=eq_of_heq G;subst G;rcases R with ⟨q',g,_⟩ | ⟨_,a,rfl⟩
   ·rw [K] at g;cases g
   ·refine (u a 0 d w).mono λe w' ⟨x,B,D,J⟩=>⟨x,B,?_,J⟩;simpa [VR,Lib.join,List.intercalate] using D
 ·rename_i d;refine ⟨_,h,λZ Y=>.inl ⟨C,eS λι nb w A W _ hx=>?_⟩⟩;simp only [VRs,VR] at hx;obtain ⟨y,ys,B,rfl,y2,Q,rfl,rfl,rfl⟩:=hx;have:A=#[.slice none 0 0,.string ⟨d.toArray⟩]:=by apply jZ;simpa using B
  subst this;exact (u none 0 d w).mono λe w' ⟨x,B,D,J⟩=>⟨x,B,by simpa [VR] using D,J⟩
 ·cases h
end Go.Abs
