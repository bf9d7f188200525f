
/- Functions of two texts that are met by a contract of the kit's shelf: TrimRight, ContainsAny.
   Conditions: none; generic over the program. -/
import Derived.Test.YtfiponokimbeeaaGreatDoorAbsT
import Derived.Shelf.Strings.SlTrimAscii
import Derived.Shelf.Strings.IndexAnyAll
import Derived.Lib.MapU
set_option linter.unusedSimpArgs false
set_option linter.unusedVariables false
namespace Go.Abs
open Go.RowKit
variable {P:Program}
def JW (l:aa):Bool:=l.all λb=>Nat.blt b.toNat 128
theorem AV {l:aa} (h:JW l=true):∀(j:Nat) b,l[j]?=some b->b.toNat<128:=
 λ_ b a=>aI ((cL.1 h) b (fZ a))
def PT (f:Nat) (ok:aa->aa->Bool) (g:aa->aa->V):Ent:=⟨f,λ_ args _ _ k=>match args with
 | [.s l,.s c]=>cond (ok l c) (k { val:=g l c }) none
 | _=>none⟩
theorem HO {f:Nat} {ok:aa->aa->Bool} {g:aa->aa->V} (a:kT P f)
  (h:∀(s c:ByteArray) (w:World),ok s.data.toList c.data.toList=true->Calls P f #[.string s,.string c] w λe w'=>∃x,e=.returned x/\(∀ι,VR ι (g s.data.toList c.data.toList) x)/\Below w.heap.size w w'):fF P (PT f ok g):=by
 intro α args H fr k z b;simp only [PT] at b;split at b
 case h_2=>cases b
 rename_i l c;obtain ⟨d,p⟩:=dZ b;refine ⟨_,p,λq _=>.inl ⟨a,gi λι nb w n r _ hx=>?_⟩⟩;simp only [VRs,VR] at hx;obtain ⟨_,_,o,rfl,_,_,rfl,rfl,rfl⟩:=hx;have:n=#[.string ⟨l.toArray⟩,.string ⟨c.toArray⟩]:=by apply ll;simpa using o
 subst this;refine (h ⟨l.toArray⟩ ⟨c.toArray⟩ w (by simpa using d)).mono λe w' ⟨x,m,i,j⟩=>⟨x,m,by simpa using i ι,j⟩
def wm (l c:aa):Bool:=Nat.ble l.length 9223372036854775807&&(Nat.ble c.length 4294967280&&JW c)
def wF (l c:aa):Bool:=Nat.ble l.length 4294967280&&(Nat.ble c.length 4294967280&&(JW l&&JW c))
def Q1 (f:Nat):Ent:=PT f wm λl c=>.s (Lib.trimRightS l c)
def QK (f:Nat):Ent:=PT f wF λl c=>.b (Lib.containsAny l c)
theorem LE {f:Nat} (hent:kT P f) (h:∀(s c:ByteArray) (w:World) (_:s.size<=9223372036854775807) (_:c.size<4294967281) (_:∀(j:Nat) b,c.data.toList[j]?=some b->b.toNat<128),
    Calls P f #[.string s,.string c] w λe w'=>e=.returned (.string ⟨(Lib.trimRightS s.data.toList c.data.toList).toArray⟩)/\Below w.heap.size w w'):fF P (Q1 f):=
  HO hent λs c w hk=>by
    simp only [wm,az] at hk;obtain ⟨h1,h2,h3⟩:=hk;have h1:=aI h1;have h2:=aI h2
    exact (h s c w (by simpa using h1) (by have:c.size<=4294967280:=by simpa using h2
                                           omega) (AV h3)).mono λe w' ⟨q1,q2⟩=>⟨_,q1,λι=>by simp [VR],q2⟩
theorem LN {f:Nat} (a:kT P f) (h:∀(s c:ByteArray) (w:World) (_:s.size<4294967281) (_:c.size<4294967281) (_:∀(j:Nat) b,s.data.toList[j]?=some b->b.toNat<128) (_:∀(j:Nat) b,c.data.toList[j]?=some b->b.toNat<128),
  Calls P f #[.string s,.string c] w λe w'=>e=.returned (.bool (Lib.containsAny s.data.toList c.data.toList))/\Below w.heap.size w w'):fF P (QK f):=
 HO a λs c w g=>by
  simp only [wF,az] at g;obtain ⟨d,i,k,n⟩:=g;have d:s.size<=4294967280:=by simpa using Nat.le_of_ble_eq_true d
  have i:c.size<=4294967280:=by simpa using Nat.le_of_ble_eq_true i
  exact (h s c w (by omega) (by omega) (AV k) (AV n)).mono λe w' ⟨m,l⟩=>⟨_,m,λι=>by simp [VR],l⟩
def o6 (r:Int):Int:=cond (decide (48<=r)&&decide (r<=57)) 100 r
def AB (l:aa):Bool:=Nat.ble l.length 1000000
def zu (l:aa):aa:=Lib.mapD o6 l
def Ko (f:Nat):Ent:=⟨f,λ_ args _ _ k=>match args with
 | [.s l]=>cond (AB l) (k { val:=.s (zu l) }) none
 | _=>none⟩
theorem LO {f:Nat} (a:kT P f) (h:∀(s:ByteArray) (w:World),s.size<=1000000->GL ie w->
  Calls P f #[.string s] w λe w'=>e=.returned (.string ⟨(zu s.data.toList).toArray⟩)/\Below w.heap.size w w'):fF P (Ko f):=by
 intro α args H fr k z c;simp only [Ko] at c;split at c
 case h_2=>cases c
 rename_i l;obtain ⟨b,n⟩:=dZ c;refine ⟨_,n,λo _=>.inl ⟨a,gi λι nb w j p d hx=>?_⟩⟩;simp only [VRs,VR] at hx;obtain ⟨_,_,m,rfl,rfl⟩:=hx;have:j=#[.string ⟨l.toArray⟩]:=by apply ll;simpa using m
 subst this;have b:l.length<=1000000:=by unfold AB at b;exact aI b
 exact (h ⟨l.toArray⟩ w (by show l.toArray.size<=_;simpa using b) d).mono λe w' ⟨i,g⟩=>⟨_,i,by simp [VR],g⟩
end Go.Abs
