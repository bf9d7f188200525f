
import Derived.Test.YtadejcglcffgbaaGreatDoorAbsX
import Derived.Lib.Join
set_option linter.unusedSimpArgs false
set_option linter.unusedVariables false
set_option linter.defProp false
namespace Go.Abs
open Go.RowKit
variable {P:Program}
def Below.fr{w w':World}(h:Below w.heap.size w w'):Fr gQ w w':=⟨h.os,h.tape,h.output,h.size,λk C _=>h.block k C⟩
def gu{f:Nat}{args:List V}{H:List (Nat×Blk)}{fr:Nat}{v:V}{rd:List Nat}
  (h:∀(ι:Inj) (nb:Nat) (w:World) (d:Array Value),WR ι H nb w->GL gQ w->VRs ι args d.toList->Calls P f d w λe w'=>∃x,e=.returned x/\VR ι v x/\Below w.heap.size w w'):
  HW P f args H fr { val:=v,rd:=rd }:=by
 intro ι nb w d c p _ _ hx;refine(h ι nb w d c (p.mono λb q h=>by cases h) hx).mono λe w' ⟨x,g,j,a⟩=>?_;subst g;have a:=Below.fr a;have n:=a.size;refine⟨ι,λ_ _ _=>rfl,λb q g=>by simp[isIn]at g,λb q g j=>by simp at j;omega,λ_ _ h _=>h,?_,?_,rfl,j⟩
 ·simp only[dO,uf];refine⟨c.inj,λb r i=>?_,λb r i=>?_,λb blk s l=>?_⟩
  ·have:=c.low b r i;omega
  ·have:=c.dom b r i;omega
  ·exact(c.blk b blk s l).map rfl (λq m=>a.blk q.r (c.dom b q m) (λ_ _ h=>by cases h)) (λ_ _ x=>x) (λ_ x=>x)
 ·exact⟨a.os,a.tape,a.output,a.size,λk o _=>a.blk k o (λ_ _ h=>by cases h)⟩
def TL(f:Nat):Ent:=⟨f,λ_ args H _ k=>match args with
 | [.ws b,.s a]=>match look H b with
  | some (.rows t l)=>ob (mj t [.s] l) λl=>cond (Nat.ble l.length 140737488355328&&Nat.ble (Lib.join l a).length 140737488355328) (k { val:=.s (Lib.join l a),rd:=[b] }) none
  | _=>none
 | [.sn,.s _]=>k { val:=.s [] }
 | _=>none⟩
def SR:∀l:List (aa),l.flatMap (vals [.s])=l.map λs=>Value.string ⟨s.toArray⟩
 | []=>rfl
 | x::l=>by rw[nY,SR l];rfl
def QG {f:Nat} (C:lB P f)
  (hN:∀(a:Option Addr) (c:Nat) (d:ByteArray) (w:World),Calls P f #[.slice a 0 c,.string d] w λe w'=>e=.returned (.string ⟨#[]⟩)/\w'=w)
  (hJ:∀(bk o c:Nat) (A:List ByteArray) (d:ByteArray) (w:World) (_:∀(j:Nat) x,A[j]?=some x->w.cell? ⟨bk,o+j,none⟩=some (.string x)) (_:bk<w.heap.size) (_:A.length<=140737488355328) (_:A.length<=c)
   (_:(Lib.join (A.map (·.data.toList)) d.data.toList).length<=140737488355328),
   Calls P f #[.slice (some ⟨bk,o,none⟩) A.length c,.string d] w λe w'=>e=.returned (.string ⟨(Lib.join (A.map (·.data.toList)) d.data.toList).toArray⟩)/\Below w.heap.size w w'):fC P (TL f):=by
 intro α args H fr k z h;simp only [TL] at h;have u:∀(a:Option Addr) (c:Nat) (d:aa) (w:World),Calls P f #[.slice a 0 c,.string ⟨d.toArray⟩] w λe w'=>∃x,e=.returned x/\VR gQ (.s []) x/\Below w.heap.size w w':=λa c d w=>
  (hN a c ⟨d.toArray⟩ w).mono λe w' ⟨O,M⟩=>⟨_,O,by simp [VR],M▸Below.refl _ _⟩
 split at h
 ·rename_i b d;split at h
  case h_2=>cases h
  rename_i t l hl;obtain ⟨m,O,M⟩:=ax h;obtain ⟨e0,D⟩:=np O;subst e0;have D:=D.symm;subst D;obtain ⟨N,h4⟩:=dU M;simp only [aB] at N;have h5:=aI N.1;have h6:=aI N.2;refine ⟨_,h4,λW U=>.inl ⟨C,gu λι nb w A Y _ hx=>?_⟩⟩;have hl':look W b=some (.rows [.s] l):=by rw [U b (by simp)];exact hl
  have hb:=Y.blk b _ hl' (by simp);have Q:∃v,A=#[v,.string ⟨d.toArray⟩]/\VR ι (.ws b) v:=by
   simp only [VRs] at hx;obtain ⟨y,ys,B,E,y2,R,J,V,e5⟩:=hx;subst e5 J;simp only [VR] at V;subst V;exact ⟨y,by apply lq;simpa using B,E⟩
  obtain ⟨v,rfl,S⟩:=Q;simp only [VR] at S;rcases hb with ⟨q,o,K,Z,L⟩ | ⟨K,t,G⟩
  ·rcases S with ⟨q',g,rfl⟩ | ⟨g,_⟩
   case inr=>rw [K] at g;cases g
   rw [K] at g;simp only [aq] at g;subst g;obtain ⟨cs,e,fz,rfl,X,g2,g3,g4,_⟩:=L;have i:(l.map λs=>(⟨s.toArray⟩:ByteArray)).length=q.n:=by rw [tt,X]
   have p:(l.map λs=>(⟨s.toArray⟩:ByteArray)).map (·.data.toList)=l:=by
    rw [tq]
    conv=>rhs;rw [<-List.map_id l]
    apply List.map_congr_left;intro s _;simp
   have:=hJ q.r q.o q.k (l.map λs=>(⟨s.toArray⟩:ByteArray)) ⟨d.toArray⟩ w (λj x F=>by
    rw [bg Z,<-qu];have hj':j<l.length:=by
     have:=(nc.1 F).1;simpa using this
    have g4':(cs.toList.drop q.o).take l.length=(show List (aa) from l).map λs=>Value.string ⟨s.toArray⟩:=by
     rw [<-SR];simpa using g4
    have T:=co (λz=>z[j]?) g4';simp only at T;rw [mW hj',lK] at T;rw [T,nX];rw [nX] at F;cases I:l[j]? with
    | none=>rw [I] at F;cases F
    | some s=>rw [I] at F;simp only [fh,aq] at F ⊢;rw [F]) (nM Z) (by rw [i,<-X];exact h5) (by rw [i];exact g2) (by rw [p];simpa using h6)
   rw [i] at this;refine this.mono λe w' ⟨B,E⟩=>⟨_,B,?_,E⟩;rw [p];simp [VR]
  ·simp only [Blk.rows.injEq] at G;obtain ⟨rfl,G⟩:=G;have G:=eq_of_heq G;subst G;rcases S with ⟨q',g,_⟩ | ⟨_,a,rfl⟩
   ·rw [K] at g;cases g
   ·refine (u a 0 d w).mono λe w' ⟨x,B,E,J⟩=>⟨x,B,?_,J⟩;simpa [VR,Lib.join,List.intercalate] using E
 ·rename_i d;refine ⟨_,h,λW U=>.inl ⟨C,gu λι nb w A Y _ hx=>?_⟩⟩;simp only [VRs,VR] at hx;obtain ⟨y,ys,B,rfl,y2,R,rfl,rfl,rfl⟩:=hx;have:A=#[.slice none 0 0,.string ⟨d.toArray⟩]:=by apply lq;simpa using B
  subst this;exact (u none 0 d w).mono λe w' ⟨x,B,E,J⟩=>⟨x,B,by simpa [VR] using E,J⟩
 ·cases h
end Go.Abs
