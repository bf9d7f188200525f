
/- Functions of the library that are met by a contract of the kit's shelf.
   Conditions: none; generic over the program. -/
import Derived.Test.YtaogbalpingjhaaGreatDoorAbsX
import Derived.Lib.Join
set_option linter.unusedSimpArgs false
set_option linter.unusedVariables false
namespace Go.Abs
open Go.RowKit
variable {P:Program}
theorem Below.fr {w w':World} (h:Below w.heap.size w w'):Fr fP w w':=⟨h.os,h.tape,h.output,h.size,λk C _=>h.block k C⟩
theorem eU {f:Nat} {args:List V} {H:List (Nat×Blk)} {fr:Nat} {v:V} {rd:List Nat}
  (h:∀(ι:Inj) (nb:Nat) (w:World) (d:Array Value),WR ι H nb w->GL fP w->VRs ι args d.toList->Calls P f d w λe w'=>∃x,e=.returned x/\VR ι v x/\Below w.heap.size w w'):
  EP P f args H fr { val:=v,rd:=rd }:=by
 intro ι nb w d c m _ _ hx;refine (h ι nb w d c (m.mono λb q h=>by cases h) hx).mono λe w' ⟨x,g,j,a⟩=>?_;subst g;have a:=Below.fr a;have n:=a.size;refine ⟨ι,λ_ _ _=>rfl,λb q g=>by simp [isIn] at g,λb q g j=>by simp at j;omega,λ_ _ h _=>h,?_,?_,rfl,j⟩
 ·simp only [da,rh];refine ⟨c.inj,λb r i=>?_,λb r i=>?_,λb blk p s=>?_⟩
  ·have:=c.low b r i;omega
  ·have:=c.dom b r i;omega
  ·exact (c.blk b blk p s).map rfl (λq l=>a.blk q.r (c.dom b q l) (λ_ _ h=>by cases h)) (λ_ _ x=>x) (λ_ x=>x)
 ·exact ⟨a.os,a.tape,a.output,a.size,λk o _=>a.blk k o (λ_ _ h=>by cases h)⟩
def Oa (f:Nat):Ent:=⟨f,λ_ args H _ k=>match args with
 | [.ws b,.s a]=>match look H b with
  | some (.rows t l)=>ob (ki t [.s] l) λl=>cond (Nat.ble l.length 140737488355328&&Nat.ble (Lib.join l a).length 140737488355328) (k { val:=.s (Lib.join l a),rd:=[b] }) none
  | _=>none
 | [.sn,.s _]=>k { val:=.s [] }
 | _=>none⟩
theorem NR:∀l:List (aa),l.flatMap (vals [.s])=l.map λs=>Value.string ⟨s.toArray⟩
 | []=>rfl
 | x::l=>by rw [oa,NR l];rfl
theorem Lq {f:Nat} (C:jc P f)
  (hN:∀(a:Option Addr) (c:Nat) (d:ByteArray) (w:World),Calls P f #[.slice a 0 c,.string d] w λe w'=>e=.returned (.string ⟨#[]⟩)/\w'=w)
  (hJ:∀(bk o c:Nat) (A:List ByteArray) (d:ByteArray) (w:World) (_:∀(j:Nat) x,A[j]?=some x->w.cell? ⟨bk,o+j,none⟩=some (.string x)) (_:bk<w.heap.size) (_:A.length<=140737488355328) (_:A.length<=c)
   (_:(Lib.join (A.map (·.data.toList)) d.data.toList).length<=140737488355328),
   Calls P f #[.slice (some ⟨bk,o,none⟩) A.length c,.string d] w λe w'=>e=.returned (.string ⟨(Lib.join (A.map (·.data.toList)) d.data.toList).toArray⟩)/\Below w.heap.size w w'):dT P (Oa f):=by
 intro α args H fr k z h;simp only [Oa] at h;have u:∀(a:Option Addr) (c:Nat) (d:aa) (w:World),Calls P f #[.slice a 0 c,.string ⟨d.toArray⟩] w λe w'=>∃x,e=.returned x/\VR fP (.s []) x/\Below w.heap.size w w':=λa c d w=>
  (hN a c ⟨d.toArray⟩ w).mono λe w' ⟨M,T⟩=>⟨_,M,by simp [VR],T▸Below.refl _ _⟩
 split at h
 ·rename_i b d;split at h
  case h_2=>cases h
  rename_i t l hl;obtain ⟨m,M,T⟩:=ak h;obtain ⟨e0,E⟩:=lh M;subst e0;have E:=E.symm;subst E;obtain ⟨S,h4⟩:=dh T;simp only [az] at S;have h5:=aD S.1;have h6:=aD S.2;refine ⟨_,h4,λX Y=>.inl ⟨C,eU λι nb w A U _ hx=>?_⟩⟩;have hl':look X b=some (.rows [.s] l):=by rw [Y b (by simp)];exact hl
  have hb:=U.blk b _ hl' (by simp);have L:∃v,A=#[v,.string ⟨d.toArray⟩]/\VR ι (.ws b) v:=by
   simp only [VRs] at hx;obtain ⟨y,ys,B,D,y2,N,J,W,e5⟩:=hx;subst e5 J;simp only [VR] at W;subst W;exact ⟨y,by apply jv;simpa using B,D⟩
  obtain ⟨v,rfl,O⟩:=L;simp only [VR] at O;rcases hb with ⟨q,o,K,Z,Q⟩ | ⟨K,t,G⟩
  ·rcases O with ⟨q',g,rfl⟩ | ⟨g,_⟩
   case inr=>rw [K] at g;cases g
   rw [K] at g;simp only [ah] at g;subst g;obtain ⟨cs,e,fz,rfl,V,g2,g3,g4,_⟩:=Q;have p:(l.map λs=>(⟨s.toArray⟩:ByteArray)).length=q.n:=by rw [DU,V]
   have i:(l.map λs=>(⟨s.toArray⟩:ByteArray)).map (·.data.toList)=l:=by
    rw [sc]
    conv=>rhs;rw [<-List.map_id l]
    apply List.map_congr_left;intro s _;simp
   have:=hJ q.r q.o q.k (l.map λs=>(⟨s.toArray⟩:ByteArray)) ⟨d.toArray⟩ w (λj x F=>by
    rw [aV Z,<-nT];have hj':j<l.length:=by
     have:=(vI.1 F).1;simpa using this
    have g4':(cs.toList.drop q.o).take l.length=(show List (aa) from l).map λs=>Value.string ⟨s.toArray⟩:=by
     rw [<-NR];simpa using g4
    have R:=ck (λz=>z[j]?) g4';simp only at R;rw [ow hj',kO] at R;rw [R,l6];rw [l6] at F;cases I:l[j]? with
    | none=>rw [I] at F;cases F
    | some s=>rw [I] at F;simp only [dC,ah] at F ⊢;rw [F]) (pi Z) (by rw [p,<-V];exact h5) (by rw [p];exact g2) (by rw [i];simpa using h6)
   rw [p] at this;refine this.mono λe w' ⟨B,D⟩=>⟨_,B,?_,D⟩;rw [i];simp [VR]
  ·simp only [Blk.rows.injEq] at G;obtain ⟨rfl,G⟩:=G;have G:=eq_of_heq G;subst G;rcases O with ⟨q',g,_⟩ | ⟨_,a,rfl⟩
   ·rw [K] at g;cases g
   ·refine (u a 0 d w).mono λe w' ⟨x,B,D,J⟩=>⟨x,B,?_,J⟩;simpa [VR,Lib.join,List.intercalate] using D
 ·rename_i d;refine ⟨_,h,λX Y=>.inl ⟨C,eU λι nb w A U _ hx=>?_⟩⟩;simp only [VRs,VR] at hx;obtain ⟨y,ys,B,rfl,y2,N,rfl,rfl,rfl⟩:=hx;have:A=#[.slice none 0 0,.string ⟨d.toArray⟩]:=by apply jv;simpa using B
  subst this;exact (u none 0 d w).mono λe w' ⟨x,B,D,J⟩=>⟨x,B,by simpa [VR] using D,J⟩
 ·cases h
end Go.Abs
