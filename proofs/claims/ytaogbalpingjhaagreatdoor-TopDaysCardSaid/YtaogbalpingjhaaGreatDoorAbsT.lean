
/- Functions of the library that are met by a contract of the kit's shelf.
   Conditions: none; generic over the program. -/
import Derived.Test.YtaogbalpingjhaaGreatDoorAbsX
import Derived.Lib.Join
set_option linter.unusedSimpArgs false
set_option linter.unusedVariables false
namespace Go.Abs
open Go.RowKit
variable {P:Program}
theorem Below.fr {w w':World} (h:Below w.heap.size w w'):Fr dH w w':=⟨h.os,h.tape,h.output,h.size,λk A _=>h.block k A⟩
theorem di {f:Nat} {args:List V} {H:List (Nat×Blk)} {fr:Nat} {v:V} {rd:List Nat}
  (h:∀(ι:Inj) (nb:Nat) (w:World) (d:Array Value),WR ι H nb w->GL dH w->VRs ι args d.toList->Calls P f d w λe w'=>∃x,e=.returned x/\VR ι v x/\Below w.heap.size w w'):
  yc P f args H fr { val:=v,rd:=rd }:=by
 intro ι nb w d c l _ _ t;refine (h ι nb w d c (l.mono λb q h=>by cases h) t).mono λe w' ⟨x,g,j,a⟩=>?_;subst g;have a:=Below.fr a;have m:=a.size;refine ⟨ι,λ_ _ _=>rfl,λb q g=>by simp [isIn] at g,λb q g j=>by simp at j;omega,λ_ _ h _=>h,?_,?_,rfl,j⟩
 ·simp only [jt,nK];refine ⟨c.inj,λb r i=>?_,λb r i=>?_,λb blk o s=>?_⟩
  ·have:=c.low b r i;omega
  ·have:=c.dom b r i;omega
  ·exact (c.blk b blk o s).map rfl (λq p=>a.blk q.r (c.dom b q p) (λ_ _ h=>by cases h)) (λ_ _ x=>x) (λ_ x=>x)
 ·exact ⟨a.os,a.tape,a.output,a.size,λk n _=>a.blk k n (λ_ _ h=>by cases h)⟩
def HW (f:Nat):Ent:=⟨f,λ_ args H _ k=>match args with
 | [.ws b,.s a]=>match look H b with
  | some (.rows t l)=>ob (ia t [.s] l) λl=>cond (Nat.ble l.length 140737488355328&&Nat.ble (Lib.join l a).length 140737488355328) (k { val:=.s (Lib.join l a),rd:=[b] }) none
  | _=>none
 | [.sn,.s _]=>k { val:=.s [] }
 | _=>none⟩
theorem GH:∀l:List (aa),l.flatMap (vals [.s])=l.map λs=>Value.string ⟨s.toArray⟩
 | []=>rfl
 | x::l=>by rw [lE,GH l];rfl
theorem Ek {f:Nat} (C:gx P f)
  (hN:∀(a:Option Addr) (c:Nat) (d:ByteArray) (w:World),Calls P f #[.slice a 0 c,.string d] w λe w'=>e=.returned (.string ⟨#[]⟩)/\w'=w)
  (hJ:∀(bk o c:Nat) (A:List ByteArray) (d:ByteArray) (w:World) (_:∀(j:Nat) x,A[j]?=some x->w.cell? ⟨bk,o+j,none⟩=some (.string x)) (_:bk<w.heap.size) (_:A.length<=140737488355328) (_:A.length<=c)
   (_:(Lib.join (A.map (·.data.toList)) d.data.toList).length<=140737488355328),
   Calls P f #[.slice (some ⟨bk,o,none⟩) A.length c,.string d] w λe w'=>e=.returned (.string ⟨(Lib.join (A.map (·.data.toList)) d.data.toList).toArray⟩)/\Below w.heap.size w w'):cD P (HW f):=by
 intro α args H fr k z h;simp only [HW] at h;have u:∀(a:Option Addr) (c:Nat) (d:aa) (w:World),Calls P f #[.slice a 0 c,.string ⟨d.toArray⟩] w λe w'=>∃x,e=.returned x/\VR dH (.s []) x/\Below w.heap.size w w':=λa c d w=>
  (hN a c ⟨d.toArray⟩ w).mono λe w' ⟨T,R⟩=>⟨_,T,by simp [VR],R▸Below.refl _ _⟩
 split at h
 ·rename_i b d;split at h
  case h_2=>cases h
  rename_i t l hl;obtain ⟨m,T,R⟩:=ah h;obtain ⟨e0,E⟩:=jc T;subst e0;have E:=E.symm;subst E;obtain ⟨O,h4⟩:=ca R;simp only [av] at O;have h5:=ax O.1;have h6:=ax O.2;refine ⟨_,h4,λY Z=>.inl ⟨C,di λι nb w A X _ K=>?_⟩⟩;have hl':look Y b=some (.rows [.s] l):=by rw [Z b (by simp)];exact hl
  have hb:=X.blk b _ hl' (by simp);have M:∃v,A=#[v,.string ⟨d.toArray⟩]/\VR ι (.ws b) v:=by
   simp only [VRs] at K;obtain ⟨y,ys,B,D,y2,S,I,V,e5⟩:=K;subst e5 I;simp only [VR] at V;subst V;exact ⟨y,by apply gz;simpa using B,D⟩
  obtain ⟨v,rfl,Q⟩:=M;simp only [VR] at Q;rcases hb with ⟨q,o,L,ho,U⟩ | ⟨L,t,G⟩
  ·rcases Q with ⟨q',g,rfl⟩ | ⟨g,_⟩
   case inr=>rw [L] at g;cases g
   rw [L] at g;simp only [ae] at g;subst g;obtain ⟨cs,e,fz,rfl,W,g2,g3,g4,_⟩:=U;have p:(l.map λs=>(⟨s.toArray⟩:ByteArray)).length=q.n:=by rw [yQ,W]
   have i:(l.map λs=>(⟨s.toArray⟩:ByteArray)).map (·.data.toList)=l:=by
    rw [uX]
    conv=>rhs;rw [<-List.map_id l]
    apply List.map_congr_left;intro s _;simp
   have:=hJ q.r q.o q.k (l.map λs=>(⟨s.toArray⟩:ByteArray)) ⟨d.toArray⟩ w (λj x F=>by
    rw [aO ho,<-lk];have hj':j<l.length:=by
     have:=(zq.1 F).1;simpa using this
    have g4':(cs.toList.drop q.o).take l.length=(show List (aa) from l).map λs=>Value.string ⟨s.toArray⟩:=by
     rw [<-GH];simpa using g4
    have N:=eN (λz=>z[j]?) g4';simp only at N;rw [lS hj',iP] at N;rw [N,lw];rw [lw] at F;cases J:l[j]? with
    | none=>rw [J] at F;cases F
    | some s=>rw [J] at F;simp only [cK,ae] at F ⊢;rw [F]) (mb ho) (by rw [p,<-W];exact h5) (by rw [p];exact g2) (by rw [i];simpa using h6)
   rw [p] at this;refine this.mono λe w' ⟨B,D⟩=>⟨_,B,?_,D⟩;rw [i];simp [VR]
  ·simp only [Blk.rows.injEq] at G;obtain ⟨rfl,G⟩:=G;have G:=eq_of_heq G;subst G;rcases Q with ⟨q',g,_⟩ | ⟨_,a,rfl⟩
   ·rw [L] at g;cases g
   ·refine (u a 0 d w).mono λe w' ⟨x,B,D,I⟩=>⟨x,B,?_,I⟩;simpa [VR,Lib.join,List.intercalate] using D
 ·rename_i d;refine ⟨_,h,λY Z=>.inl ⟨C,di λι nb w A X _ K=>?_⟩⟩;simp only [VRs,VR] at K;obtain ⟨y,ys,B,rfl,y2,S,rfl,rfl,rfl⟩:=K;have:A=#[.slice none 0 0,.string ⟨d.toArray⟩]:=by apply gz;simpa using B
  subst this;exact (u none 0 d w).mono λe w' ⟨x,B,D,I⟩=>⟨x,B,by simpa [VR] using D,I⟩
 ·cases h
end Go.Abs
