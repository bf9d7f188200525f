
import Derived.Test.YtadejcglcffgbacGreatDoorAbsX
import Derived.Lib.Join
set_option linter.unusedSimpArgs false
set_option linter.unusedVariables false
set_option linter.defProp false
namespace Go.Abs
open Go.RowKit
variable {P:Program}
def Below.fr{w w':World}(h:Below w.heap.size w w'):Fr dY w w':=⟨h.os,h.tape,h.output,h.size,λk A _=>h.block k A⟩
def cK{f:Nat}{args:List V}{H:List (Nat×Blk)}{fr:Nat}{v:V}{rd:List Nat}
  (h:∀(ι:Inj) (nb:Nat) (w:World) (d:Array Value),WR ι H nb w->GL dY w->VRs ι args d.toList->Calls P f d w λe w'=>∃x,e=.returned x/\VR ι v x/\Below w.heap.size w w'):
  AM P f args H fr { val:=v,rd:=rd }:=by
 intro ι nb w d c l _ _ m;refine(h ι nb w d c (l.mono λb q h=>by cases h) m).mono λe w' ⟨x,h1,h2,a⟩=>?_;subst h1;have a:=Below.fr a;have i:=a.size;refine⟨ι,λ_ _ _=>rfl,λb q h1=>by simp[isIn]at h1,λb q h1 h2=>by simp at h2;omega,λ_ _ h _=>h,?_,?_,rfl,h2⟩
 ·simp only[gh,oV];refine⟨c.inj,λb r g=>?_,λb r g=>?_,λb blk p n=>?_⟩
  ·have:=c.low b r g;omega
  ·have:=c.dom b r g;omega
  ·exact(c.blk b blk p n).map rfl (λq o=>a.blk q.r (c.dom b q o) (λ_ _ h=>by cases h)) (λ_ _ x=>x) (λ_ x=>x)
 ·exact⟨a.os,a.tape,a.output,a.size,λk j _=>a.blk k j (λ_ _ h=>by cases h)⟩
def Ks(f:Nat):Ent:=⟨f,λ_ args H _ k=>match args with
 | [.ws b,.s a]=>match look H b with
  | some (.rows t l)=>ob (jc t [.s] l) λl=>cond (Nat.ble l.length 140737488355328&&Nat.ble (Lib.join l a).length 140737488355328) (k { val:=.s (Lib.join l a),rd:=[b] }) none
  | _=>none
 | [.sn,.s _]=>k { val:=.s [] }
 | _=>none⟩
def IQ:∀l:List (aa),l.flatMap (vals [.s])=l.map λs=>Value.string ⟨s.toArray⟩
 | []=>rfl
 | x::l=>by rw[fO,IQ l];rfl
def Ha {f:Nat} (C:gj P f)
  (hN:∀(a:Option Addr) (c:Nat) (d:ByteArray) (w:World),Calls P f #[.slice a 0 c,.string d] w λe w'=>e=.returned (.string ⟨#[]⟩)/\w'=w)
  (hJ:∀(bk o c:Nat) (A:List ByteArray) (d:ByteArray) (w:World) (_:∀(j:Nat) x,A[j]?=some x->w.cell? ⟨bk,o+j,none⟩=some (.string x)) (_:bk<w.heap.size) (_:A.length<=140737488355328) (_:A.length<=c)
   (_:(Lib.join (A.map (·.data.toList)) d.data.toList).length<=140737488355328),
   Calls P f #[.slice (some ⟨bk,o,none⟩) A.length c,.string d] w λe w'=>e=.returned (.string ⟨(Lib.join (A.map (·.data.toList)) d.data.toList).toArray⟩)/\Below w.heap.size w w'):cN P (Ks f):=by
 intro α args H fr k z h;simp only [Ks] at h;have i:∀(a:Option Addr) (c:Nat) (d:aa) (w:World),Calls P f #[.slice a 0 c,.string ⟨d.toArray⟩] w λe w'=>∃x,e=.returned x/\VR dY (.s []) x/\Below w.heap.size w w':=λa c d w=>
  (hN a c ⟨d.toArray⟩ w).mono λe w' ⟨h1,h2⟩=>⟨_,h1,by simp [VR],h2▸Below.refl _ _⟩
 split at h
 ·rename_i b d;split at h
  case h_2=>cases h
  rename_i t l hl;obtain ⟨m,h1,h2⟩:=ah h;obtain ⟨e0,E⟩:=jQ h1;subst e0;have E:=E.symm;subst E;obtain ⟨S,h4⟩:=bR h2;simp only [aw] at S;have h5:=az S.1;have h6:=az S.2;refine ⟨_,h4,λU V=>.inl ⟨C,cK λι nb w A X _ K=>?_⟩⟩;have hl':look U b=some (.rows [.s] l):=by rw [V b (by simp)];exact hl
  have hb:=X.blk b _ hl' (by simp);have O:∃v,A=#[v,.string ⟨d.toArray⟩]/\VR ι (.ws b) v:=by
   simp only [VRs] at K;obtain ⟨y,ys,B,D,Z,R,J,Y,e5⟩:=K;subst e5 J;simp only [VR] at Y;subst Y;exact ⟨y,by apply gQ;simpa using B,D⟩
  obtain ⟨v,rfl,M⟩:=O;simp only [VR] at M;rcases hb with ⟨q,o,L,T,N⟩ | ⟨L,t,G⟩
  ·rcases M with ⟨q',g,rfl⟩ | ⟨g,_⟩
   case inr=>rw [L] at g;cases g
   rw [L] at g;simp only [af] at g;subst g;obtain ⟨cs,e,fz,rfl,W,g2,g3,g4,_⟩:=N;have p:(l.map λs=>(⟨s.toArray⟩:ByteArray)).length=q.n:=by rw [mw,W]
   have u:(l.map λs=>(⟨s.toArray⟩:ByteArray)).map (·.data.toList)=l:=by
    rw [pI]
    conv=>rhs;rw [<-List.map_id l]
    apply zf;intro s _;simp
   have:=hJ q.r q.o q.k (l.map λs=>(⟨s.toArray⟩:ByteArray)) ⟨d.toArray⟩ w (λj x F=>by
    rw [aN T,<-mh];have hj':j<l.length:=by
     have:=(o9.1 F).1;simpa using this
    have g4':(cs.toList.drop q.o).take l.length=(show List (aa) from l).map λs=>Value.string ⟨s.toArray⟩:=by
     rw [<-IQ];simpa using g4
    have Q:=eK (λz=>z[j]?) g4';simp only at Q;rw [mM hj',jx] at Q;rw [Q,mL];rw [mL] at F;cases I:l[j]? with
    | none=>rw [I] at F;cases F
    | some s=>rw [I] at F;simp only [dB,af] at F ⊢;rw [F]) (nj T) (by rw [p,<-W];exact h5) (by rw [p];exact g2) (by rw [u];simpa using h6)
   rw [p] at this;refine this.mono λe w' ⟨B,D⟩=>⟨_,B,?_,D⟩;rw [u];simp [VR]
  ·simp only [Blk.rows.injEq] at G;obtain ⟨rfl,G⟩:=G;have G:=eq_of_heq G;subst G;rcases M with ⟨q',g,_⟩ | ⟨_,a,rfl⟩
   ·rw [L] at g;cases g
   ·refine (i a 0 d w).mono λe w' ⟨x,B,D,J⟩=>⟨x,B,?_,J⟩;simpa [VR,Lib.join,List.intercalate] using D
 ·rename_i d;refine ⟨_,h,λU V=>.inl ⟨C,cK λι nb w A X _ K=>?_⟩⟩;simp only [VRs,VR] at K;obtain ⟨y,ys,B,rfl,Z,R,rfl,rfl,rfl⟩:=K;have:A=#[.slice none 0 0,.string ⟨d.toArray⟩]:=by apply gQ;simpa using B
  subst this;exact (i none 0 d w).mono λe w' ⟨x,B,D,J⟩=>⟨x,B,by simpa [VR] using D,J⟩
 ·cases h
end Go.Abs
