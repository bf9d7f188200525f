
/- Functions of two texts that are met by a contract of the kit's shelf: TrimRight, ContainsAny.
   Conditions: none; generic over the program. -/
import Derived.Test.YthemneooekobkaaGreatDoorAbsT
import Derived.Shelf.Strings.SlTrimAscii
import Derived.Shelf.Strings.IndexAnyAll
import Derived.Lib.MapU
set_option linter.unusedSimpArgs false
set_option linter.unusedVariables false
namespace Go.Abs
open Go.RowKit
variable {P:Program}
def JH (l:aa):Bool:=l.all λb=>Nat.blt b.toNat 128
theorem zi {l:aa} (h:JH l=true):∀(j:Nat) b,l[j]?=some b->b.toNat<128:=
 λ_ b a=>aH ((bS.1 h) b (fD a))
def KG (f:Nat) (ok:aa->aa->Bool) (g:aa->aa->V):Ent:=⟨f,λ_ args _ _ k=>match args with
 | [.s l,.s c]=>cond (ok l c) (k { val:=g l c }) none
 | _=>none⟩
theorem DZ {f:Nat} {ok:aa->aa->Bool} {g:aa->aa->V} (a:kG P f)
  (h:∀(s c:ByteArray) (w:World),ok s.data.toList c.data.toList=true->Calls P f #[.string s,.string c] w λe w'=>∃x,e=.returned x/\(∀ι,VR ι (g s.data.toList c.data.toList) x)/\Below w.heap.size w w'):fO P (KG f ok g):=by
 intro α args H fr k z b;simp only [KG] at b;split at b
 case h_2=>cases b
 rename_i l c;obtain ⟨o,j⟩:=dX b;refine ⟨_,j,λt _=>.inl ⟨a,kF λι nb w n r _ d=>?_⟩⟩;simp only [VRs,VR] at d;obtain ⟨_,_,q,rfl,_,_,rfl,rfl,rfl⟩:=d;have:n=#[.string ⟨l.toArray⟩,.string ⟨c.toArray⟩]:=by apply kY;simpa using q
 subst this;refine (h ⟨l.toArray⟩ ⟨c.toArray⟩ w (by simpa using o)).mono λe w' ⟨x,m,p,i⟩=>⟨x,m,by simpa using p ι,i⟩
def vL (l c:aa):Bool:=Nat.ble l.length 9223372036854775807&&(Nat.ble c.length 4294967280&&JH c)
def uq (l c:aa):Bool:=Nat.ble l.length 4294967280&&(Nat.ble c.length 4294967280&&(JH l&&JH c))
def NP (f:Nat):Ent:=KG f vL λl c=>.s (Lib.trimRightS l c)
def M4 (f:Nat):Ent:=KG f uq λl c=>.b (Lib.containsAny l c)
theorem ID {f:Nat} (hent:kG P f) (h:∀(s c:ByteArray) (w:World) (_:s.size<=9223372036854775807) (_:c.size<4294967281) (_:∀(j:Nat) b,c.data.toList[j]?=some b->b.toNat<128),
    Calls P f #[.string s,.string c] w λe w'=>e=.returned (.string ⟨(Lib.trimRightS s.data.toList c.data.toList).toArray⟩)/\Below w.heap.size w w'):fO P (NP f):=
  DZ hent λs c w hk=>by
    simp only [vL,aA] at hk;obtain ⟨h1,h2,h3⟩:=hk;have h1:=aH h1;have h2:=aH h2
    exact (h s c w (by simpa using h1) (by have:c.size<=4294967280:=by simpa using h2
                                           omega) (zi h3)).mono λe w' ⟨q1,q2⟩=>⟨_,q1,λι=>by simp [VR],q2⟩
theorem HF {f:Nat} (a:kG P f) (h:∀(s c:ByteArray) (w:World) (_:s.size<4294967281) (_:c.size<4294967281) (_:∀(j:Nat) b,s.data.toList[j]?=some b->b.toNat<128) (_:∀(j:Nat) b,c.data.toList[j]?=some b->b.toNat<128),
  Calls P f #[.string s,.string c] w λe w'=>e=.returned (.bool (Lib.containsAny s.data.toList c.data.toList))/\Below w.heap.size w w'):fO P (M4 f):=
 DZ a λs c w g=>by
  simp only [uq,aA] at g;obtain ⟨i,d,m,k⟩:=g;have i:s.size<=4294967280:=by simpa using Nat.le_of_ble_eq_true i
  have d:c.size<=4294967280:=by simpa using Nat.le_of_ble_eq_true d
  exact (h s c w (by omega) (by omega) (zi m) (zi k)).mono λe w' ⟨l,n⟩=>⟨_,l,λι=>by simp [VR],n⟩
def mI (r:Int):Int:=cond (decide (48<=r)&&decide (r<=57)) 100 r
def yH (l:aa):Bool:=Nat.ble l.length 1000000
def wn (l:aa):aa:=Lib.mapD mI l
def iO9 (f:Nat):Ent:=⟨f,λ_ args _ _ k=>match args with
 | [.s l]=>cond (yH l) (k { val:=.s (wn l) }) none
 | _=>none⟩
theorem Jx {f:Nat} (a:kG P f) (h:∀(s:ByteArray) (w:World),s.size<=1000000->GL iM w->
  Calls P f #[.string s] w λe w'=>e=.returned (.string ⟨(wn s.data.toList).toArray⟩)/\Below w.heap.size w w'):fO P (iO9 f):=by
 intro α args H fr k z b;simp only [iO9] at b;split at b
 case h_2=>cases b
 rename_i l;obtain ⟨c,i⟩:=dX b;refine ⟨_,i,λq _=>.inl ⟨a,kF λι nb w m p g d=>?_⟩⟩;simp only [VRs,VR] at d;obtain ⟨_,_,o,rfl,rfl⟩:=d;have:m=#[.string ⟨l.toArray⟩]:=by apply kY;simpa using o
 subst this;have c:l.length<=1000000:=by unfold yH at c;exact aH c
 exact (h ⟨l.toArray⟩ w (by show l.toArray.size<=_;simpa using c) g).mono λe w' ⟨j,n⟩=>⟨_,j,by simp [VR],n⟩
end Go.Abs
