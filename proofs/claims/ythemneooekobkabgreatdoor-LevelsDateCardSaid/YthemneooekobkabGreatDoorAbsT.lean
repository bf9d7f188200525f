
/- Functions of the library that are met by a contract of the kit's shelf.
   Conditions: none; generic over the program. -/
import Derived.Test.YthemneooekobkabGreatDoorAbsX
import Derived.Lib.Join
set_option linter.unusedSimpArgs false
set_option linter.unusedVariables false
namespace Go.Abs
open Go.RowKit
variable {P:Program}
theorem Below.fr {w w':World} (h:Below w.heap.size w w'):Fr gY w w':=⟨h.os,h.tape,h.output,h.size,λk C _=>h.block k C⟩
theorem ge {f:Nat} {args:List V} {H:List (Nat×Blk)} {fr:Nat} {v:V} {rd:List Nat}
  (h:∀(ι:Inj) (nb:Nat) (w:World) (g:Array Value),WR ι H nb w->GL gY w->VRs ι args g.toList->Calls P f g w λe w'=>∃x,e=.returned x/\VR ι v x/\Below w.heap.size w w'):
  GT P f args H fr { val:=v,rd:=rd }:=by
 intro ι nb w g c p _ _ hx;refine (h ι nb w g c (p.mono λb q h=>by cases h) hx).mono λe w' ⟨x,d,j,a⟩=>?_;subst d;have a:=Below.fr a;have o:=a.size;refine ⟨ι,λ_ _ _=>rfl,λb q d=>by simp [isIn] at d,λb q d j=>by simp at j;omega,λ_ _ h _=>h,?_,?_,rfl,j⟩
 ·simp only [dJ,uw];refine ⟨c.inj,λb r i=>?_,λb r i=>?_,λb blk m n=>?_⟩
  ·have:=c.low b r i;omega
  ·have:=c.dom b r i;omega
  ·exact (c.blk b blk m n).map rfl (λq l=>a.blk q.r (c.dom b q l) (λ_ _ h=>by cases h)) (λ_ _ x=>x) (λ_ x=>x)
 ·exact ⟨a.os,a.tape,a.output,a.size,λk s _=>a.blk k s (λ_ _ h=>by cases h)⟩
def Uf (f:Nat):Ent:=⟨f,λ_ args H _ k=>match args with
 | [.ws b,.s a]=>match look H b with
  | some (.rows t l)=>ob (lZ t [.s] l) λl=>cond (Nat.ble l.length 140737488355328&&Nat.ble (Lib.join l a).length 140737488355328) (k { val:=.s (Lib.join l a),rd:=[b] }) none
  | _=>none
 | [.sn,.s _]=>k { val:=.s [] }
 | _=>none⟩
theorem QX:∀l:List (aa),l.flatMap (vals [.s])=l.map λs=>Value.string ⟨s.toArray⟩
 | []=>rfl
 | x::l=>by rw [ou,QX l];rfl
theorem P9 {f:Nat} (C:kM P f)
  (hN:∀(a:Option Addr) (c:Nat) (d:ByteArray) (w:World),Calls P f #[.slice a 0 c,.string d] w λe w'=>e=.returned (.string ⟨#[]⟩)/\w'=w)
  (hJ:∀(bk o c:Nat) (A:List ByteArray) (d:ByteArray) (w:World) (_:∀(j:Nat) x,A[j]?=some x->w.cell? ⟨bk,o+j,none⟩=some (.string x)) (_:bk<w.heap.size) (_:A.length<=140737488355328) (_:A.length<=c)
   (_:(Lib.join (A.map (·.data.toList)) d.data.toList).length<=140737488355328),
   Calls P f #[.slice (some ⟨bk,o,none⟩) A.length c,.string d] w λe w'=>e=.returned (.string ⟨(Lib.join (A.map (·.data.toList)) d.data.toList).toArray⟩)/\Below w.heap.size w w'):fW P (Uf f):=by
 intro α args H fr k z h;simp only [Uf] at h;have i:∀(a:Option Addr) (c:Nat) (d:aa) (w:World),Calls P f #[.slice a 0 c,.string ⟨d.toArray⟩] w λe w'=>∃x,e=.returned x/\VR gY (.s []) x/\Below w.heap.size w w':=λa c d w=>
  (hN a c ⟨d.toArray⟩ w).mono λe w' ⟨T,R⟩=>⟨_,T,by simp [VR],R▸Below.refl _ _⟩
 split at h
 ·rename_i b d;split at h
  case h_2=>cases h
  rename_i t l hl;obtain ⟨m,T,R⟩:=aw h;obtain ⟨e0,F⟩:=m9 T;subst e0;have F:=F.symm;subst F;obtain ⟨N,h4⟩:=dZ R;simp only [aA] at N;have h5:=aL N.1;have h6:=aL N.2;refine ⟨_,h4,λW X=>.inl ⟨C,ge λι nb w A Y _ hx=>?_⟩⟩;have hl':look W b=some (.rows [.s] l):=by rw [X b (by simp)];exact hl
  have hb:=Y.blk b _ hl' (by simp);have O:∃v,A=#[v,.string ⟨d.toArray⟩]/\VR ι (.ws b) v:=by
   simp only [VRs] at hx;obtain ⟨y,ys,B,D,y2,S,I,Z,e5⟩:=hx;subst e5 I;simp only [VR] at Z;subst Z;exact ⟨y,by apply lh;simpa using B,D⟩
  obtain ⟨v,rfl,M⟩:=O;simp only [VR] at M;rcases hb with ⟨q,o,K,U,Q⟩ | ⟨K,t,G⟩
  ·rcases M with ⟨q',g,rfl⟩ | ⟨g,_⟩
   case inr=>rw [K] at g;cases g
   rw [K] at g;simp only [av] at g;subst g;obtain ⟨cs,e,fz,rfl,V,g2,g3,g4,_⟩:=Q;have p:(l.map λs=>(⟨s.toArray⟩:ByteArray)).length=q.n:=by rw [tM,V]
   have u:(l.map λs=>(⟨s.toArray⟩:ByteArray)).map (·.data.toList)=l:=by
    rw [tO]
    conv=>rhs;rw [<-List.map_id l]
    apply List.map_congr_left;intro s _;simp
   have:=hJ q.r q.o q.k (l.map λs=>(⟨s.toArray⟩:ByteArray)) ⟨d.toArray⟩ w (λj x E=>by
    rw [bv U,<-qM];have hj':j<l.length:=by
     have:=(oV.1 E).1;simpa using this
    have g4':(cs.toList.drop q.o).take l.length=(show List (aa) from l).map λs=>Value.string ⟨s.toArray⟩:=by
     rw [<-QX];simpa using g4
    have L:=cK (λz=>z[j]?) g4';simp only at L;rw [qE hj',mY] at L;rw [L,mj];rw [mj] at E;cases J:l[j]? with
    | none=>rw [J] at E;cases E
    | some s=>rw [J] at E;simp only [fa,av] at E ⊢;rw [E]) (rU U) (by rw [p,<-V];exact h5) (by rw [p];exact g2) (by rw [u];simpa using h6)
   rw [p] at this;refine this.mono λe w' ⟨B,D⟩=>⟨_,B,?_,D⟩;rw [u];simp [VR]
  ·simp only [Blk.rows.injEq] at G;obtain ⟨rfl,G⟩:=G;have G:=eq_of_heq G;subst G;rcases M with ⟨q',g,_⟩ | ⟨_,a,rfl⟩
   ·rw [K] at g;cases g
   ·refine (i a 0 d w).mono λe w' ⟨x,B,D,I⟩=>⟨x,B,?_,I⟩;simpa [VR,Lib.join,List.intercalate] using D
 ·rename_i d;refine ⟨_,h,λW X=>.inl ⟨C,ge λι nb w A Y _ hx=>?_⟩⟩;simp only [VRs,VR] at hx;obtain ⟨y,ys,B,rfl,y2,S,rfl,rfl,rfl⟩:=hx;have:A=#[.slice none 0 0,.string ⟨d.toArray⟩]:=by apply lh;simpa using B
  subst this;exact (i none 0 d w).mono λe w' ⟨x,B,D,I⟩=>⟨x,B,by simpa [VR] using D,I⟩
 ·cases h
end Go.Abs
