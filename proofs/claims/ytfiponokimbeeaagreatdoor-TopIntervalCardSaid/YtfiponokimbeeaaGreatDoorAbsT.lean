
/- Functions of the library that are met by a contract of the kit's shelf.
   Conditions: none; generic over the program. -/
import Derived.Test.YtfiponokimbeeaaGreatDoorAbsX
import Derived.Lib.Join
set_option linter.unusedSimpArgs false
set_option linter.unusedVariables false
namespace Go.Abs
open Go.RowKit
variable {P:Program}
theorem Below.fr {w w':World} (h:Below w.heap.size w w'):Fr f7 w w':=⟨h.os,h.tape,h.output,h.size,λk C _=>h.block k C⟩
theorem fi {f:Nat} {args:List V} {H:List (Nat×Blk)} {fr:Nat} {v:V} {rd:List Nat}
  (h:∀(ι:Inj) (nb:Nat) (w:World) (g:Array Value),WR ι H nb w->GL f7 w->VRs ι args g.toList->Calls P f g w λe w'=>∃x,e=.returned x/\VR ι v x/\Below w.heap.size w w'):
  Fa P f args H fr { val:=v,rd:=rd }:=by
 intro ι nb w g c p _ _ hx;refine (h ι nb w g c (p.mono λb q h=>by cases h) hx).mono λe w' ⟨x,d,j,a⟩=>?_;subst d;have a:=Below.fr a;have m:=a.size;refine ⟨ι,λ_ _ _=>rfl,λb q d=>by simp [isIn] at d,λb q d j=>by simp at j;omega,λ_ _ h _=>h,?_,?_,rfl,j⟩
 ·simp only [dn,rU];refine ⟨c.inj,λb r i=>?_,λb r i=>?_,λb blk l s=>?_⟩
  ·have:=c.low b r i;omega
  ·have:=c.dom b r i;omega
  ·exact (c.blk b blk l s).map rfl (λq o=>a.blk q.r (c.dom b q o) (λ_ _ h=>by cases h)) (λ_ _ x=>x) (λ_ x=>x)
 ·exact ⟨a.os,a.tape,a.output,a.size,λk n _=>a.blk k n (λ_ _ h=>by cases h)⟩
def QP (f:Nat):Ent:=⟨f,λ_ args H _ k=>match args with
 | [.ws b,.s a]=>match look H b with
  | some (.rows t l)=>ob (kx t [.s] l) λl=>cond (Nat.ble l.length 140737488355328&&Nat.ble (Lib.join l a).length 140737488355328) (k { val:=.s (Lib.join l a),rd:=[b] }) none
  | _=>none
 | [.sn,.s _]=>k { val:=.s [] }
 | _=>none⟩
theorem NX:∀l:List (aa),l.flatMap (vals [.s])=l.map λs=>Value.string ⟨s.toArray⟩
 | []=>rfl
 | x::l=>by rw [pB,NX l];rfl
theorem Nw {f:Nat} (C:jA P f)
  (hN:∀(a:Option Addr) (c:Nat) (d:ByteArray) (w:World),Calls P f #[.slice a 0 c,.string d] w λe w'=>e=.returned (.string ⟨#[]⟩)/\w'=w)
  (hJ:∀(bk o c:Nat) (A:List ByteArray) (d:ByteArray) (w:World) (_:∀(j:Nat) x,A[j]?=some x->w.cell? ⟨bk,o+j,none⟩=some (.string x)) (_:bk<w.heap.size) (_:A.length<=140737488355328) (_:A.length<=c)
   (_:(Lib.join (A.map (·.data.toList)) d.data.toList).length<=140737488355328),
   Calls P f #[.slice (some ⟨bk,o,none⟩) A.length c,.string d] w λe w'=>e=.returned (.string ⟨(Lib.join (A.map (·.data.toList)) d.data.toList).toArray⟩)/\Below w.heap.size w w'):ep P (QP f):=by
 intro α args H fr k z h;simp only [QP] at h;have p:∀(a:Option Addr) (c:Nat) (d:aa) (w:World),Calls P f #[.slice a 0 c,.string ⟨d.toArray⟩] w λe w'=>∃x,e=.returned x/\VR f7 (.s []) x/\Below w.heap.size w w':=λa c d w=>
  (hN a c ⟨d.toArray⟩ w).mono λe w' ⟨S,T⟩=>⟨_,S,by simp [VR],T▸Below.refl _ _⟩
 split at h
 ·rename_i b d;split at h
  case h_2=>cases h
  rename_i t l hl;obtain ⟨m,S,T⟩:=au h;obtain ⟨e0,E⟩:=lB S;subst e0;have E:=E.symm;subst E;obtain ⟨M,h4⟩:=dr T;simp only [aB] at M;have h5:=aG M.1;have h6:=aG M.2;refine ⟨_,h4,λZ X=>.inl ⟨C,fi λι nb w A W _ hx=>?_⟩⟩;have hl':look Z b=some (.rows [.s] l):=by rw [X b (by simp)];exact hl
  have hb:=W.blk b _ hl' (by simp);have L:∃v,A=#[v,.string ⟨d.toArray⟩]/\VR ι (.ws b) v:=by
   simp only [VRs] at hx;obtain ⟨y,ys,B,D,y2,O,I,Y,e5⟩:=hx;subst e5 I;simp only [VR] at Y;subst Y;exact ⟨y,by apply jK;simpa using B,D⟩
  obtain ⟨v,rfl,Q⟩:=L;simp only [VR] at Q;rcases hb with ⟨q,o,K,V,N⟩ | ⟨K,t,G⟩
  ·rcases Q with ⟨q',g,rfl⟩ | ⟨g,_⟩
   case inr=>rw [K] at g;cases g
   rw [K] at g;simp only [ak] at g;subst g;obtain ⟨cs,e,fz,rfl,U,g2,g3,g4,_⟩:=N;have u:(l.map λs=>(⟨s.toArray⟩:ByteArray)).length=q.n:=by rw [FH,U]
   have i:(l.map λs=>(⟨s.toArray⟩:ByteArray)).map (·.data.toList)=l:=by
    rw [xQ]
    conv=>rhs;rw [<-List.map_id l]
    apply List.map_congr_left;intro s _;simp
   have:=hJ q.r q.o q.k (l.map λs=>(⟨s.toArray⟩:ByteArray)) ⟨d.toArray⟩ w (λj x F=>by
    rw [be V,<-oH];have hj':j<l.length:=by
     have:=(tu.1 F).1;simpa using this
    have g4':(cs.toList.drop q.o).take l.length=(show List (aa) from l).map λs=>Value.string ⟨s.toArray⟩:=by
     rw [<-NX];simpa using g4
    have R:=bO (λz=>z[j]?) g4';simp only at R;rw [ov hj',ll] at R;rw [R,lX];rw [lX] at F;cases J:l[j]? with
    | none=>rw [J] at F;cases F
    | some s=>rw [J] at F;simp only [dU,ak] at F ⊢;rw [F]) (qd V) (by rw [u,<-U];exact h5) (by rw [u];exact g2) (by rw [i];simpa using h6)
   rw [u] at this;refine this.mono λe w' ⟨B,D⟩=>⟨_,B,?_,D⟩;rw [i];simp [VR]
  ·simp only [Blk.rows.injEq] at G;obtain ⟨rfl,G⟩:=G;have G:=eq_of_heq G;subst G;rcases Q with ⟨q',g,_⟩ | ⟨_,a,rfl⟩
   ·rw [K] at g;cases g
   ·refine (p a 0 d w).mono λe w' ⟨x,B,D,I⟩=>⟨x,B,?_,I⟩;simpa [VR,Lib.join,List.intercalate] using D
 ·rename_i d;refine ⟨_,h,λZ X=>.inl ⟨C,fi λι nb w A W _ hx=>?_⟩⟩;simp only [VRs,VR] at hx;obtain ⟨y,ys,B,rfl,y2,O,rfl,rfl,rfl⟩:=hx;have:A=#[.slice none 0 0,.string ⟨d.toArray⟩]:=by apply jK;simpa using B
  subst this;exact (p none 0 d w).mono λe w' ⟨x,B,D,I⟩=>⟨x,B,by simpa [VR] using D,I⟩
 ·cases h
end Go.Abs
