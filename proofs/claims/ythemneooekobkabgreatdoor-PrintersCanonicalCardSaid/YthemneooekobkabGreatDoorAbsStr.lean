
/- Functions of two texts that are met by a contract of the kit's shelf: TrimRight, ContainsAny.
   Conditions: none; generic over the program. -/
import Derived.Test.YthemneooekobkabGreatDoorAbsT
import Derived.Shelf.Strings.SlTrimAscii
import Derived.Shelf.Strings.IndexAnyAll
import Derived.Lib.MapU
set_option linter.unusedSimpArgs false
set_option linter.unusedVariables false
namespace Go.Abs
open Go.RowKit
variable {P:Program}
def MF (l:aa):Bool:=l.all λb=>Nat.blt b.toNat 128
theorem Bi {l:aa} (h:MF l=true):∀(j:Nat) b,l[j]?=some b->b.toNat<128:=
 λ_ b a=>aI ((cN.1 h) b (gB a))
def P4 (f:Nat) (ok:aa->aa->Bool) (g:aa->aa->V):Ent:=⟨f,λ_ args _ _ k=>match args with
 | [.s l,.s c]=>cond (ok l c) (k { val:=g l c }) none
 | _=>none⟩
theorem HK {f:Nat} {ok:aa->aa->Bool} {g:aa->aa->V} (a:kV P f)
  (h:∀(s c:ByteArray) (w:World),ok s.data.toList c.data.toList=true->Calls P f #[.string s,.string c] w λe w'=>∃x,e=.returned x/\(∀ι,VR ι (g s.data.toList c.data.toList) x)/\Below w.heap.size w w'):fH P (P4 f ok g):=by
 intro α args H fr k z b;simp only [P4] at b;split at b
 case h_2=>cases b
 rename_i l c;obtain ⟨o,m⟩:=dY b;refine ⟨_,m,λq _=>.inl ⟨a,gn λι nb w n r _ hx=>?_⟩⟩;simp only [VRs,VR] at hx;obtain ⟨_,_,d,rfl,_,_,rfl,rfl,rfl⟩:=hx;have:n=#[.string ⟨l.toArray⟩,.string ⟨c.toArray⟩]:=by apply lG;simpa using d
 subst this;refine (h ⟨l.toArray⟩ ⟨c.toArray⟩ w (by simpa using o)).mono λe w' ⟨x,i,p,j⟩=>⟨x,i,by simpa using p ι,j⟩
def xl (l c:aa):Bool:=Nat.ble l.length 9223372036854775807&&(Nat.ble c.length 4294967280&&MF c)
def xi (l c:aa):Bool:=Nat.ble l.length 4294967280&&(Nat.ble c.length 4294967280&&(MF l&&MF c))
def Q6 (f:Nat):Ent:=P4 f xl λl c=>.s (Lib.trimRightS l c)
def QL (f:Nat):Ent:=P4 f xi λl c=>.b (Lib.containsAny l c)
theorem NU {f:Nat} (hent:kV P f) (h:∀(s c:ByteArray) (w:World) (_:s.size<=9223372036854775807) (_:c.size<4294967281) (_:∀(j:Nat) b,c.data.toList[j]?=some b->b.toNat<128),
    Calls P f #[.string s,.string c] w λe w'=>e=.returned (.string ⟨(Lib.trimRightS s.data.toList c.data.toList).toArray⟩)/\Below w.heap.size w w'):fH P (Q6 f):=
  HK hent λs c w hk=>by
    simp only [xl,aA] at hk;obtain ⟨h1,h2,h3⟩:=hk;have h1:=aI h1;have h2:=aI h2
    exact (h s c w (by simpa using h1) (by have:c.size<=4294967280:=by simpa using h2
                                           omega) (Bi h3)).mono λe w' ⟨q1,q2⟩=>⟨_,q1,λι=>by simp [VR],q2⟩
theorem Le {f:Nat} (a:kV P f) (h:∀(s c:ByteArray) (w:World) (_:s.size<4294967281) (_:c.size<4294967281) (_:∀(j:Nat) b,s.data.toList[j]?=some b->b.toNat<128) (_:∀(j:Nat) b,c.data.toList[j]?=some b->b.toNat<128),
  Calls P f #[.string s,.string c] w λe w'=>e=.returned (.bool (Lib.containsAny s.data.toList c.data.toList))/\Below w.heap.size w w'):fH P (QL f):=
 HK a λs c w d=>by
  simp only [xi,aA] at d;obtain ⟨i,g,l,n⟩:=d;have i:s.size<=4294967280:=by simpa using Nat.le_of_ble_eq_true i
  have g:c.size<=4294967280:=by simpa using Nat.le_of_ble_eq_true g
  exact (h s c w (by omega) (by omega) (Bi l) (Bi n)).mono λe w' ⟨k,m⟩=>⟨_,k,λι=>by simp [VR],m⟩
def pm (r:Int):Int:=cond (decide (48<=r)&&decide (r<=57)) 100 r
def AT (l:aa):Bool:=Nat.ble l.length 1000000
def zb (l:aa):aa:=Lib.mapD pm l
def Jx (f:Nat):Ent:=⟨f,λ_ args _ _ k=>match args with
 | [.s l]=>cond (AT l) (k { val:=.s (zb l) }) none
 | _=>none⟩
theorem JE {f:Nat} (a:kV P f) (h:∀(s:ByteArray) (w:World),s.size<=1000000->GL ip w->
  Calls P f #[.string s] w λe w'=>e=.returned (.string ⟨(zb s.data.toList).toArray⟩)/\Below w.heap.size w w'):fH P (Jx f):=by
 intro α args H fr k z b;simp only [Jx] at b;split at b
 case h_2=>cases b
 rename_i l;obtain ⟨c,i⟩:=dY b;refine ⟨_,i,λo _=>.inl ⟨a,gn λι nb w j p n hx=>?_⟩⟩;simp only [VRs,VR] at hx;obtain ⟨_,_,d,rfl,rfl⟩:=hx;have:j=#[.string ⟨l.toArray⟩]:=by apply lG;simpa using d
 subst this;have c:l.length<=1000000:=by unfold AT at c;exact aI c
 exact (h ⟨l.toArray⟩ w (by show l.toArray.size<=_;simpa using c) n).mono λe w' ⟨g,m⟩=>⟨_,g,by simp [VR],m⟩
end Go.Abs
