
/- Functions of the library that are met by a contract of the kit's shelf.
   Conditions: none; generic over the program. -/
import Derived.Test.YtfiponokimbeeaaGreatDoorAbsX
import Derived.Lib.Join
set_option linter.unusedSimpArgs false
set_option linter.unusedVariables false
namespace Go.Abs
open Go.RowKit
variable {P:Program}
theorem Below.fr {w w':World} (h:Below w.heap.size w w'):Fr gf w w':=⟨h.os,h.tape,h.output,h.size,λk C _=>h.block k C⟩
theorem fA {f:Nat} {args:List V} {H:List (Nat×Blk)} {fr:Nat} {v:V} {rd:List Nat}
  (h:∀(ι:Inj) (nb:Nat) (w:World) (g:Array Value),WR ι H nb w->GL gf w->VRs ι args g.toList->Calls P f g w λe w'=>∃x,e=.returned x/\VR ι v x/\Below w.heap.size w w'):
  FC P f args H fr { val:=v,rd:=rd }:=by
 intro ι nb w g c n _ _ hx;refine (h ι nb w g c (n.mono λb q h=>by cases h) hx).mono λe w' ⟨x,d,i,a⟩=>?_;subst d;have a:=Below.fr a;have m:=a.size;refine ⟨ι,λ_ _ _=>rfl,λb q d=>by simp [isIn] at d,λb q d i=>by simp at i;omega,λ_ _ h _=>h,?_,?_,rfl,i⟩
 ·simp only [dD,tc];refine ⟨c.inj,λb r j=>?_,λb r j=>?_,λb blk l p=>?_⟩
  ·have:=c.low b r j;omega
  ·have:=c.dom b r j;omega
  ·exact (c.blk b blk l p).map rfl (λq s=>a.blk q.r (c.dom b q s) (λ_ _ h=>by cases h)) (λ_ _ x=>x) (λ_ x=>x)
 ·exact ⟨a.os,a.tape,a.output,a.size,λk o _=>a.blk k o (λ_ _ h=>by cases h)⟩
def QE (f:Nat):Ent:=⟨f,λ_ args H _ k=>match args with
 | [.ws b,.s a]=>match look H b with
  | some (.rows t l)=>ob (kJ t [.s] l) λl=>cond (Nat.ble l.length 140737488355328&&Nat.ble (Lib.join l a).length 140737488355328) (k { val:=.s (Lib.join l a),rd:=[b] }) none
  | _=>none
 | [.sn,.s _]=>k { val:=.s [] }
 | _=>none⟩
theorem Om:∀l:List (aa),l.flatMap (vals [.s])=l.map λs=>Value.string ⟨s.toArray⟩
 | []=>rfl
 | x::l=>by rw [na,Om l];rfl
theorem Ns {f:Nat} (C:jE P f)
  (hN:∀(a:Option Addr) (c:Nat) (d:ByteArray) (w:World),Calls P f #[.slice a 0 c,.string d] w λe w'=>e=.returned (.string ⟨#[]⟩)/\w'=w)
  (hJ:∀(bk o c:Nat) (A:List ByteArray) (d:ByteArray) (w:World) (_:∀(j:Nat) x,A[j]?=some x->w.cell? ⟨bk,o+j,none⟩=some (.string x)) (_:bk<w.heap.size) (_:A.length<=140737488355328) (_:A.length<=c)
   (_:(Lib.join (A.map (·.data.toList)) d.data.toList).length<=140737488355328),
   Calls P f #[.slice (some ⟨bk,o,none⟩) A.length c,.string d] w λe w'=>e=.returned (.string ⟨(Lib.join (A.map (·.data.toList)) d.data.toList).toArray⟩)/\Below w.heap.size w w'):fp P (QE f):=by
 intro α args H fr k z h;simp only [QE] at h;have p:∀(a:Option Addr) (c:Nat) (d:aa) (w:World),Calls P f #[.slice a 0 c,.string ⟨d.toArray⟩] w λe w'=>∃x,e=.returned x/\VR gf (.s []) x/\Below w.heap.size w w':=λa c d w=>
  (hN a c ⟨d.toArray⟩ w).mono λe w' ⟨R,M⟩=>⟨_,R,by simp [VR],M▸Below.refl _ _⟩
 split at h
 ·rename_i b d;split at h
  case h_2=>cases h
  rename_i t l hl;obtain ⟨m,R,M⟩:=ar h;obtain ⟨e0,F⟩:=l8 R;subst e0;have F:=F.symm;subst F;obtain ⟨N,h4⟩:=dG M;simp only [az] at N;have h5:=aE N.1;have h6:=aE N.2;refine ⟨_,h4,λZ W=>.inl ⟨C,fA λι nb w A V _ hx=>?_⟩⟩;have hl':look Z b=some (.rows [.s] l):=by rw [W b (by simp)];exact hl
  have hb:=V.blk b _ hl' (by simp);have O:∃v,A=#[v,.string ⟨d.toArray⟩]/\VR ι (.ws b) v:=by
   simp only [VRs] at hx;obtain ⟨y,ys,B,D,y2,Q,I,X,e5⟩:=hx;subst e5 I;simp only [VR] at X;subst X;exact ⟨y,by apply jQ;simpa using B,D⟩
  obtain ⟨v,rfl,S⟩:=O;simp only [VR] at S;rcases hb with ⟨q,o,K,Y,L⟩ | ⟨K,t,G⟩
  ·rcases S with ⟨q',g,rfl⟩ | ⟨g,_⟩
   case inr=>rw [K] at g;cases g
   rw [K] at g;simp only [ak] at g;subst g;obtain ⟨cs,e,fz,rfl,U,g2,g3,g4,_⟩:=L;have i:(l.map λs=>(⟨s.toArray⟩:ByteArray)).length=q.n:=by rw [yx,U]
   have u:(l.map λs=>(⟨s.toArray⟩:ByteArray)).map (·.data.toList)=l:=by
    rw [tP]
    conv=>rhs;rw [<-List.map_id l]
    apply List.map_congr_left;intro s _;simp
   have:=hJ q.r q.o q.k (l.map λs=>(⟨s.toArray⟩:ByteArray)) ⟨d.toArray⟩ w (λj x E=>by
    rw [bf Y,<-pU];have hj':j<l.length:=by
     have:=(rP.1 E).1;simpa using this
    have g4':(cs.toList.drop q.o).take l.length=(show List (aa) from l).map λs=>Value.string ⟨s.toArray⟩:=by
     rw [<-Om];simpa using g4
    have T:=ci (λz=>z[j]?) g4';simp only at T;rw [pS hj',lO] at T;rw [T,lG];rw [lG] at E;cases J:l[j]? with
    | none=>rw [J] at E;cases E
    | some s=>rw [J] at E;simp only [eo,ak] at E ⊢;rw [E]) (qY Y) (by rw [i,<-U];exact h5) (by rw [i];exact g2) (by rw [u];simpa using h6)
   rw [i] at this;refine this.mono λe w' ⟨B,D⟩=>⟨_,B,?_,D⟩;rw [u];simp [VR]
  ·simp only [Blk.rows.injEq] at G;obtain ⟨rfl,G⟩:=G;have G:=eq_of_heq G;subst G;rcases S with ⟨q',g,_⟩ | ⟨_,a,rfl⟩
   ·rw [K] at g;cases g
   ·refine (p a 0 d w).mono λe w' ⟨x,B,D,I⟩=>⟨x,B,?_,I⟩;simpa [VR,Lib.join,List.intercalate] using D
 ·rename_i d;refine ⟨_,h,λZ W=>.inl ⟨C,fA λι nb w A V _ hx=>?_⟩⟩;simp only [VRs,VR] at hx;obtain ⟨y,ys,B,rfl,y2,Q,rfl,rfl,rfl⟩:=hx;have:A=#[.slice none 0 0,.string ⟨d.toArray⟩]:=by apply jQ;simpa using B
  subst this;exact (p none 0 d w).mono λe w' ⟨x,B,D,I⟩=>⟨x,B,by simpa [VR] using D,I⟩
 ·cases h
end Go.Abs
