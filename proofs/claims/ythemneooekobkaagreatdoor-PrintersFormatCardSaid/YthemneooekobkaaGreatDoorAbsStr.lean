
/- Functions of two texts that are met by a contract of the kit's shelf: TrimRight, ContainsAny.
   Conditions: none; generic over the program. -/
import Derived.Test.YthemneooekobkaaGreatDoorAbsT
import Derived.Shelf.Strings.SlTrimAscii
import Derived.Shelf.Strings.IndexAnyAll
import Derived.Lib.MapU
set_option linter.unusedSimpArgs false
set_option linter.unusedVariables false
namespace Go.Abs
open Go.RowKit
variable {P:Program}
def OS (l:aa):Bool:=l.all λb=>Nat.blt b.toNat 128
theorem BI {l:aa} (h:OS l=true):∀(j:Nat) b,l[j]?=some b->b.toNat<128:=
 λ_ b a=>aL ((bW.1 h) b (fc a))
def Ql (f:Nat) (ok:aa->aa->Bool) (g:aa->aa->V):Ent:=⟨f,λ_ args _ _ k=>match args with
 | [.s l,.s c]=>cond (ok l c) (k { val:=g l c }) none
 | _=>none⟩
theorem Jp {f:Nat} {ok:aa->aa->Bool} {g:aa->aa->V} (a:lu P f)
  (h:∀(s c:ByteArray) (w:World),ok s.data.toList c.data.toList=true->Calls P f #[.string s,.string c] w λe w'=>∃x,e=.returned x/\(∀ι,VR ι (g s.data.toList c.data.toList) x)/\Below w.heap.size w w'):fM P (Ql f ok g):=by
 intro α args H fr k z b;simp only [Ql] at b;split at b
 case h_2=>cases b
 rename_i l c;obtain ⟨i,n⟩:=dZ b;refine ⟨_,n,λq _=>.inl ⟨a,gp λι nb w o r _ hx=>?_⟩⟩;simp only [VRs,VR] at hx;obtain ⟨_,_,m,rfl,_,_,rfl,rfl,rfl⟩:=hx;have:o=#[.string ⟨l.toArray⟩,.string ⟨c.toArray⟩]:=by apply lP;simpa using m
 subst this;refine (h ⟨l.toArray⟩ ⟨c.toArray⟩ w (by simpa using i)).mono λe w' ⟨x,p,j,d⟩=>⟨x,p,by simpa using j ι,d⟩
def xY (l c:aa):Bool:=Nat.ble l.length 9223372036854775807&&(Nat.ble c.length 4294967280&&OS c)
def zg (l c:aa):Bool:=Nat.ble l.length 4294967280&&(Nat.ble c.length 4294967280&&(OS l&&OS c))
def SY (f:Nat):Ent:=Ql f xY λl c=>.s (Lib.trimRightS l c)
def Sm (f:Nat):Ent:=Ql f zg λl c=>.b (Lib.containsAny l c)
theorem KR {f:Nat} (hent:lu P f) (h:∀(s c:ByteArray) (w:World) (_:s.size<=9223372036854775807) (_:c.size<4294967281) (_:∀(j:Nat) b,c.data.toList[j]?=some b->b.toNat<128),
    Calls P f #[.string s,.string c] w λe w'=>e=.returned (.string ⟨(Lib.trimRightS s.data.toList c.data.toList).toArray⟩)/\Below w.heap.size w w'):fM P (SY f):=
  Jp hent λs c w hk=>by
    simp only [xY,az] at hk;obtain ⟨h1,h2,h3⟩:=hk;have h1:=aL h1;have h2:=aL h2
    exact (h s c w (by simpa using h1) (by have:c.size<=4294967280:=by simpa using h2
                                           omega) (BI h3)).mono λe w' ⟨q1,q2⟩=>⟨_,q1,λι=>by simp [VR],q2⟩
theorem ND {f:Nat} (a:lu P f) (h:∀(s c:ByteArray) (w:World) (_:s.size<4294967281) (_:c.size<4294967281) (_:∀(j:Nat) b,s.data.toList[j]?=some b->b.toNat<128) (_:∀(j:Nat) b,c.data.toList[j]?=some b->b.toNat<128),
  Calls P f #[.string s,.string c] w λe w'=>e=.returned (.bool (Lib.containsAny s.data.toList c.data.toList))/\Below w.heap.size w w'):fM P (Sm f):=
 Jp a λs c w g=>by
  simp only [zg,az] at g;obtain ⟨d,i,m,k⟩:=g;have d:s.size<=4294967280:=by simpa using Nat.le_of_ble_eq_true d
  have i:c.size<=4294967280:=by simpa using Nat.le_of_ble_eq_true i
  exact (h s c w (by omega) (by omega) (BI m) (BI k)).mono λe w' ⟨n,l⟩=>⟨_,n,λι=>by simp [VR],l⟩
def pK (r:Int):Int:=cond (decide (48<=r)&&decide (r<=57)) 100 r
def CJ (l:aa):Bool:=Nat.ble l.length 1000000
def Ai (l:aa):aa:=Lib.mapD pK l
def K0 (f:Nat):Ent:=⟨f,λ_ args _ _ k=>match args with
 | [.s l]=>cond (CJ l) (k { val:=.s (Ai l) }) none
 | _=>none⟩
theorem NV {f:Nat} (a:lu P f) (h:∀(s:ByteArray) (w:World),s.size<=1000000->GL gS w->
  Calls P f #[.string s] w λe w'=>e=.returned (.string ⟨(Ai s.data.toList).toArray⟩)/\Below w.heap.size w w'):fM P (K0 f):=by
 intro α args H fr k z c;simp only [K0] at c;split at c
 case h_2=>cases c
 rename_i l;obtain ⟨b,j⟩:=dZ c;refine ⟨_,j,λo _=>.inl ⟨a,gp λι nb w m p i hx=>?_⟩⟩;simp only [VRs,VR] at hx;obtain ⟨_,_,g,rfl,rfl⟩:=hx;have:m=#[.string ⟨l.toArray⟩]:=by apply lP;simpa using g
 subst this;have b:l.length<=1000000:=by unfold CJ at b;exact aL b
 exact (h ⟨l.toArray⟩ w (by show l.toArray.size<=_;simpa using b) i).mono λe w' ⟨n,d⟩=>⟨_,n,by simp [VR],d⟩
end Go.Abs
