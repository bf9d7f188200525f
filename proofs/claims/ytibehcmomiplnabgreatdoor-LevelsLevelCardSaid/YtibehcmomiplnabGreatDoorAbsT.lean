
import Derived.Test.YtibehcmomiplnabGreatDoorAbsX
import Derived.Lib.Join
set_option linter.unusedSimpArgs false
set_option linter.unusedVariables false
set_option linter.defProp false
namespace Go.Abs
open Go.RowKit
variable {P:Program}
def Below.fr{w w':World}(h:Below w.heap.size w w'):Fr iI w w':=⟨h.os,h.tape,h.output,h.size,λk C _=>h.block k C⟩
def ib{f:Nat}{args:List V}{H:List (Nat×Blk)}{fr:Nat}{v:V}{rd:List Nat}
  (h:∀(ι:Inj) (nb:Nat) (w:World) (g:Array Value),WR ι H nb w->GL iI w->VRs ι args g.toList->Calls P f g w λe w'=>∃x,e=.returned x/\VR ι v x/\Below w.heap.size w w'):
  JK P f args H fr { val:=v,rd:=rd }:=by
 intro ι nb w g c o _ _ hx;refine(h ι nb w g c (o.mono λb q h=>by cases h) hx).mono λe w' ⟨x,d,j,a⟩=>?_;subst d;have a:=Below.fr a;have m:=a.size;refine⟨ι,λ_ _ _=>rfl,λb q d=>by simp[isIn]at d,λb q d j=>by simp at j;omega,λ_ _ h _=>h,?_,?_,rfl,j⟩
 ·simp only[eo,wK];refine⟨c.inj,λb r i=>?_,λb r i=>?_,λb blk n s=>?_⟩
  ·have:=c.low b r i;omega
  ·have:=c.dom b r i;omega
  ·exact(c.blk b blk n s).map rfl (λq p=>a.blk q.r (c.dom b q p) (λ_ _ h=>by cases h)) (λ_ _ x=>x) (λ_ x=>x)
 ·exact⟨a.os,a.tape,a.output,a.size,λk l _=>a.blk k l (λ_ _ h=>by cases h)⟩
def W0(f:Nat):Ent:=⟨f,λ_ args H _ k=>match args with
 | [.ws b,.s a]=>match look H b with
  | some (.rows t l)=>ob (nK t [.s] l) λl=>cond (Nat.ble l.length 140737488355328&&Nat.ble (Lib.join l a).length 140737488355328) (k { val:=.s (Lib.join l a),rd:=[b] }) none
  | _=>none
 | [.sn,.s _]=>k { val:=.s [] }
 | _=>none⟩
def Vx:∀l:List aa,l.flatMap (vals [.s])=l.map λs=>Value.string ⟨s.toArray⟩
 | []=>rfl
 | x::l=>by rw[pV,Vx l];rfl
def Ud {f:Nat} (C:mA P f)
  (hN:∀(a:Option Addr) (c:Nat) (d:ByteArray) (w:World),Calls P f #[.slice a 0 c,.string d] w λe w'=>e=.returned (.string ⟨#[]⟩)/\w'=w)
  (hJ:∀(bk o c:Nat) (A:List ByteArray) (d:ByteArray) (w:World) (_:∀(j:Nat) x,A[j]?=some x->w.cell? ⟨bk,o+j,none⟩=some (.string x)) (_:bk<w.heap.size) (_:A.length<=140737488355328) (_:A.length<=c)
   (_:(Lib.join (A.map (·.data.toList)) d.data.toList).length<=140737488355328),
   Calls P f #[.slice (some ⟨bk,o,none⟩) A.length c,.string d] w λe w'=>e=.returned (.string ⟨(Lib.join (A.map (·.data.toList)) d.data.toList).toArray⟩)/\Below w.heap.size w w'):gV P (W0 f):=by
 intro α args H fr k z h;simp only [W0] at h;have p:∀(a:Option Addr) (c:Nat) (d:aa) (w:World),Calls P f #[.slice a 0 c,.string ⟨d.toArray⟩] w λe w'=>∃x,e=.returned x/\VR iI (.s []) x/\Below w.heap.size w w':=λa c d w=>
  (hN a c ⟨d.toArray⟩ w).mono λe w' ⟨R,Q⟩=>⟨_,R,by simp [VR],Q▸Below.refl _ _⟩
 split at h
 ·rename_i b d;split at h
  case h_2=>cases h
  rename_i t l hl;obtain ⟨m,R,Q⟩:=ax h;obtain ⟨e0,D⟩:=pj R;subst e0;have D:=D.symm;subst D;obtain ⟨L,h4⟩:=eV Q;simp only [aD] at L;have h5:=aR L.1;have h6:=aR L.2;refine ⟨_,h4,λX U=>.inl ⟨C,ib λι nb w A Z _ hx=>?_⟩⟩;have hl':look X b=some (.rows [.s] l):=by rw [U b (by simp)];exact hl
  have hb:=Z.blk b _ hl' (by simp);have N:∃v,A=#[v,.string ⟨d.toArray⟩]/\VR ι (.ws b) v:=by
   simp only [VRs] at hx;obtain ⟨y,ys,B,E,y2,O,I,V,e5⟩:=hx;subst e5 I;simp only [VR] at V;subst V;exact ⟨y,by apply mO;simpa using B,E⟩
  obtain ⟨v,rfl,M⟩:=N;simp only [VR] at M;rcases hb with ⟨q,o,K,Y,S⟩ | ⟨K,t,G⟩
  ·rcases M with ⟨q',g,rfl⟩ | ⟨g,_⟩
   case inr=>rw [K] at g;cases g
   rw [K] at g;simp only [aw] at g;subst g;obtain ⟨cs,e,fz,rfl,W,g2,g3,g4,_⟩:=S;have i:(l.map λs=>(⟨s.toArray⟩:ByteArray)).length=q.n:=by rw [vF,W]
   have u:(l.map λs=>(⟨s.toArray⟩:ByteArray)).map (·.data.toList)=l:=by
    rw [vK]
    conv=>rhs;rw [<-List.map_id l]
    apply List.map_congr_left;intro s _;simp
   have:=hJ q.r q.o q.k (l.map λs=>(⟨s.toArray⟩:ByteArray)) ⟨d.toArray⟩ w (λj x F=>by
    rw [bB Y,<-sa];have hj':j<l.length:=by
     have:=(qk.1 F).1;simpa using this
    have g4':(cs.toList.drop q.o).take l.length=(show List aa from l).map λs=>Value.string ⟨s.toArray⟩:=by
     rw [<-Vx];simpa using g4
    have T:=cf (λz=>z[j]?) g4';simp only at T;rw [m7 hj',mQ] at T;rw [T,nV];rw [nV] at F;cases J:l[j]? with
    | none=>rw [J] at F;cases F
    | some s=>rw [J] at F;simp only [fQ,aw] at F ⊢;rw [F]) (rz Y) (by rw [i,<-W];exact h5) (by rw [i];exact g2) (by rw [u];simpa using h6)
   rw [i] at this;refine this.mono λe w' ⟨B,E⟩=>⟨_,B,?_,E⟩;rw [u];simp [VR]
  ·simp only [Blk.rows.injEq] at G;obtain ⟨rfl,G⟩:=G;have G:=eq_of_heq G;subst G;rcases M with ⟨q',g,_⟩ | ⟨_,a,rfl⟩
   ·rw [K] at g;cases g
   ·refine (p a 0 d w).mono λe w' ⟨x,B,E,I⟩=>⟨x,B,?_,I⟩;simpa [VR,Lib.join,List.intercalate] using E
 ·rename_i d;refine ⟨_,h,λX U=>.inl ⟨C,ib λι nb w A Z _ hx=>?_⟩⟩;simp only [VRs,VR] at hx;obtain ⟨y,ys,B,rfl,y2,O,rfl,rfl,rfl⟩:=hx;have:A=#[.slice none 0 0,.string ⟨d.toArray⟩]:=by apply mO;simpa using B
  subst this;exact (p none 0 d w).mono λe w' ⟨x,B,E,I⟩=>⟨x,B,by simpa [VR] using E,I⟩
 ·cases h
end Go.Abs
