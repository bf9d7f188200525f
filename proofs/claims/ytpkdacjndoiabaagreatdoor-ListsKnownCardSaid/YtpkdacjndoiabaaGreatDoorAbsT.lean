/- Functions of the library that are met by a contract of the kit's shelf.
   Conditions: none; generic over the program. -/
import Derived.Test.YtpkdacjndoiabaaGreatDoorAbsX
import Derived.Lib.Join
set_option linter.unusedSimpArgs false
namespace Go.Abs
open Go.RowKit
variable {P:Program}
theorem Below.fr {w w':World} (h:Below w.heap.size w w'):Fr iH w w':=⟨h.os,h.tape,h.output,h.size,λk hk _=>h.block k hk⟩
theorem jd {f:Nat} {args:List V} {H:List (Nat×Blk)} {fr:Nat} {v:V} {rd:List Nat}
  (h:∀(ι:Inj) (nb:Nat) (w:World) (xs:Array Value),WR ι H nb w->GL iH w->VRs ι args xs.toList->Calls P f xs w λe w'=>∃x,e=.returned x/\VR ι v x/\Below w.heap.size w w'):
  EL P f args H fr { val:=v,rd:=rd }:=by
 intro ι nb w xs hW hg _ _ hx
 refine (h ι nb w xs hW (hg.mono λb q h=>by cases h) hx).mono λe w' ⟨x,h1,h2,h3⟩=>?_
 subst h1
 have h3:=Below.fr h3
 have hsz:=h3.size
 refine ⟨ι,λ_ _ _=>rfl,λb q h1=>by simp [isIn] at h1,λb q h1 h2=>by simp at h2;omega,λ_ _ h _=>h,?_,?_,rfl,h2⟩
 ·simp only [dQ,tR]
  refine ⟨hW.inj,λb r hb=>?_,λb r hb=>?_,λb blk hl hd=>?_⟩
  ·have:=hW.low b r hb
   omega
  ·have:=hW.dom b r hb
   omega
  ·exact (hW.blk b blk hl hd).map rfl (λq hq=>h3.blk q.r (hW.dom b q hq) (λ_ _ h=>by cases h)) (λ_ _ x=>x) (λ_ x=>x)
 ·exact ⟨h3.os,h3.tape,h3.output,h3.size,λk hk _=>h3.blk k hk (λ_ _ h=>by cases h)⟩
def P7 (f:Nat):Ent:=⟨f,λ_ args H _ k=>match args with
 | [.ws b,.s sep]=>match look H b with
  | some (.rows t l)=>ob (lz t [.s] l) λl=>cond (Nat.ble l.length 140737488355328&&Nat.ble (Lib.join l sep).length 140737488355328) (k { val:=.s (Lib.join l sep),rd:=[b] }) none
  | _=>none
 | [.sn,.s _]=>k { val:=.s [] }
 | _=>none⟩
theorem Oc:∀l:List (aa),l.flatMap (vals [.s])=l.map λs=>Value.string ⟨s.toArray⟩
 | []=>rfl
 | x::l=>by rw [pQ,Oc l];rfl
theorem Na {f:Nat} (hent:m4 P f)
  (hN:∀(a:Option Addr) (c:Nat) (sep:ByteArray) (w:World),Calls P f #[.slice a 0 c,.string sep] w λe w'=>e=.returned (.string ⟨#[]⟩)/\w'=w)
  (hJ:∀(bk o c:Nat) (xs:List ByteArray) (sep:ByteArray) (w:World) (_:∀(j:Nat) x,xs[j]?=some x->w.cell? ⟨bk,o+j,none⟩=some (.string x)) (_:bk<w.heap.size) (_:xs.length<=140737488355328) (_:xs.length<=c)
   (_:(Lib.join (xs.map (·.data.toList)) sep.data.toList).length<=140737488355328),
   Calls P f #[.slice (some ⟨bk,o,none⟩) xs.length c,.string sep] w λe w'=>e=.returned (.string ⟨(Lib.join (xs.map (·.data.toList)) sep.data.toList).toArray⟩)/\Below w.heap.size w w'):gN P (P7 f):=by
 intro α args H fr k z h
 simp only [P7] at h
 have hnone:∀(a:Option Addr) (c:Nat) (sep:aa) (w:World),Calls P f #[.slice a 0 c,.string ⟨sep.toArray⟩] w λe w'=>∃x,e=.returned x/\VR iH (.s []) x/\Below w.heap.size w w':=λa c sep w=>
  (hN a c ⟨sep.toArray⟩ w).mono λe w' ⟨h1,h2⟩=>⟨_,h1,by simp [VR],h2▸Below.refl _ _⟩
 split at h
 ·rename_i b sep
  split at h
  case h_2=>cases h
  rename_i t l hl
  obtain ⟨m,h1,h2⟩:=av h
  obtain ⟨e0,h10⟩:=mD h1
  subst e0
  have h10:=h10.symm
  subst h10
  obtain ⟨h3,h4⟩:=eO h2
  simp only [az] at h3
  have h5:=aI h3.1
  have h6:=aI h3.2
  refine ⟨_,h4,λH' hH=>.inl ⟨hent,jd λι nb w xs hW _ hx=>?_⟩⟩
  have hl':look H' b=some (.rows [.s] l):=by rw [hH b (by simp)];exact hl
  have hb:=hW.blk b _ hl' (by simp)
  have hxs:∃v,xs=#[v,.string ⟨sep.toArray⟩]/\VR ι (.ws b) v:=by
   simp only [VRs] at hx
   obtain ⟨y,ys,e1,e2,y2,ys2,e3,e4,e5⟩:=hx
   subst e5 e3
   simp only [VR] at e4
   subst e4
   exact ⟨y,by apply lP;simpa using e1,e2⟩
  obtain ⟨v,rfl,hv⟩:=hxs
  simp only [VR] at hv
  rcases hb with ⟨q,o,hq,ho,hbr⟩ | ⟨hq,t,ht⟩
  ·rcases hv with ⟨q',hq',rfl⟩ | ⟨hq',_⟩
   case inr=>rw [hq] at hq';cases hq'
   rw [hq] at hq'
   simp only [aq] at hq'
   subst hq'
   obtain ⟨cs,e,fz,rfl,g1,g2,g3,g4,_⟩:=hbr
   have hlen:(l.map λs=>(⟨s.toArray⟩:ByteArray)).length=q.n:=by rw [uz,g1]
   have hback:(l.map λs=>(⟨s.toArray⟩:ByteArray)).map (·.data.toList)=l:=by
    rw [rW]
    conv=>rhs;rw [<-List.map_id l]
    apply List.map_congr_left
    intro s _
    simp
   have:=hJ q.r q.o q.k (l.map λs=>(⟨s.toArray⟩:ByteArray)) ⟨sep.toArray⟩ w (λj x hj=>by
    rw [bH ho,<-r7]
    have hj':j<l.length:=by
     have:=(od.1 hj).1
     simpa using this
    have g4':(cs.toList.drop q.o).take l.length=(show List (aa) from l).map λs=>Value.string ⟨s.toArray⟩:=by
     rw [<-Oc];simpa using g4
    have g5:=dm (λz=>z[j]?) g4'
    simp only at g5
    rw [pN hj',mn] at g5
    rw [g5,my]
    rw [my] at hj
    cases hlj:l[j]? with
    | none=>rw [hlj] at hj;cases hj
    | some s=>rw [hlj] at hj;simp only [eK,aq] at hj ⊢;rw [hj]) (ri ho) (by rw [hlen,<-g1];exact h5) (by rw [hlen];exact g2) (by rw [hback];simpa using h6)
   rw [hlen] at this
   refine this.mono λe w' ⟨e1,e2⟩=>⟨_,e1,?_,e2⟩
   rw [hback]
   simp [VR]
  ·simp only [Blk.rows.injEq] at ht
   obtain ⟨rfl,ht⟩:=ht
   have ht:=eq_of_heq ht
   subst ht
   rcases hv with ⟨q',hq',_⟩ | ⟨_,a,rfl⟩
   ·rw [hq] at hq';cases hq'
   ·refine (hnone a 0 sep w).mono λe w' ⟨x,e1,e2,e3⟩=>⟨x,e1,?_,e3⟩
    simpa [VR,Lib.join,List.intercalate] using e2
 ·rename_i sep
  refine ⟨_,h,λH' hH=>.inl ⟨hent,jd λι nb w xs hW _ hx=>?_⟩⟩
  simp only [VRs,VR] at hx
  obtain ⟨y,ys,e1,rfl,y2,ys2,rfl,rfl,rfl⟩:=hx
  have:xs=#[.slice none 0 0,.string ⟨sep.toArray⟩]:=by apply lP;simpa using e1
  subst this
  exact (hnone none 0 sep w).mono λe w' ⟨x,e1,e2,e3⟩=>⟨x,e1,by simpa [VR] using e2,e3⟩
 ·cases h
end Go.Abs
