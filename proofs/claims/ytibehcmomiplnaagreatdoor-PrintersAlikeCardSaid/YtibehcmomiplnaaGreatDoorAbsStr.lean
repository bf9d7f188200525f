
import Derived.Test.YtibehcmomiplnaaGreatDoorAbsT
import Derived.Shelf.Strings.SlTrimAscii
import Derived.Shelf.Strings.IndexAnyAll
import Derived.Lib.MapU
set_option linter.unusedSimpArgs false
set_option linter.unusedVariables false
set_option linter.defProp false
namespace Go.Abs
open Go.RowKit
variable {P:Program}
def MI(l:aa):Bool:=l.all λb=>Nat.blt b.toNat 128
def BB{l:aa}(h:MI l=true):∀(j:Nat) b,l[j]?=some b->b.toNat<128:=
 λ_ b a=>aM ((bO.1 h) b (fh a))
def PM(f:Nat)(ok:aa->aa->Bool)(g:aa->aa->V):Ent:=⟨f,λ_ args _ _ k=>match args with
 | [.s l,.s c]=>cond (ok l c) (k { val:=g l c }) none
 | _=>none⟩
def IX{f:Nat}{ok:aa->aa->Bool}{g:aa->aa->V}(a:lC P f)
  (h:∀(s c:ByteArray) (w:World),ok s.data.toList c.data.toList=true->Calls P f #[.string s,.string c] w λe w'=>∃x,e=.returned x/\(∀ι,VR ι (g s.data.toList c.data.toList) x)/\Below w.heap.size w w'):fQ P (PM f ok g):=by
 intro α args H fr k z b;simp only[PM]at b;split at b
 case h_2=>cases b
 rename_i l c;obtain⟨j,p⟩:=ei b;refine⟨_,p,λq _=>.inl ⟨a,gC λι nb w i r _ hx=>?_⟩⟩;simp only[VRs,VR]at hx;obtain⟨_,_,d,rfl,_,_,rfl,rfl,rfl⟩:=hx;have:i=#[.string ⟨l.toArray⟩,.string ⟨c.toArray⟩]:=by apply lU;simpa using d
 subst this;refine(h ⟨l.toArray⟩ ⟨c.toArray⟩ w (by simpa using j)).mono λe w' ⟨x,m,o,n⟩=>⟨x,m,by simpa using o ι,n⟩
def yZ(l c:aa):Bool:=Nat.ble l.length 9223372036854775807&&(Nat.ble c.length 4294967280&&MI c)
def xY(l c:aa):Bool:=Nat.ble l.length 4294967280&&(Nat.ble c.length 4294967280&&(MI l&&MI c))
def SX(f:Nat):Ent:=PM f yZ λl c=>.s (Lib.trimRightS l c)
def S1(f:Nat):Ent:=PM f xY λl c=>.b (Lib.containsAny l c)
def LH {f:Nat} (hent:lC P f) (h:∀(s c:ByteArray) (w:World) (_:s.size<=9223372036854775807) (_:c.size<4294967281) (_:∀(j:Nat) b,c.data.toList[j]?=some b->b.toNat<128),
    Calls P f #[.string s,.string c] w λe w'=>e=.returned (.string ⟨(Lib.trimRightS s.data.toList c.data.toList).toArray⟩)/\Below w.heap.size w w'):fQ P (SX f):=
  IX hent λs c w hk=>by
    simp only [yZ,aA] at hk;obtain ⟨h1,h2,h3⟩:=hk;have h1:=aM h1;have h2:=aM h2
    exact (h s c w (by simpa using h1) (by have:c.size<=4294967280:=by simpa using h2
                                           omega) (BB h3)).mono λe w' ⟨q1,q2⟩=>⟨_,q1,λι=>by simp [VR],q2⟩
def M5{f:Nat}(a:lC P f)(h:∀(s c:ByteArray) (w:World) (_:s.size<4294967281) (_:c.size<4294967281) (_:∀(j:Nat) b,s.data.toList[j]?=some b->b.toNat<128) (_:∀(j:Nat) b,c.data.toList[j]?=some b->b.toNat<128),
  Calls P f #[.string s,.string c] w λe w'=>e=.returned (.bool (Lib.containsAny s.data.toList c.data.toList))/\Below w.heap.size w w'):fQ P (S1 f):=
 IX a λs c w d=>by
  simp only[xY,aA]at d;obtain⟨g,i,k,n⟩:=d;have g:s.size<=4294967280:=by simpa using Nat.le_of_ble_eq_true g
  have i:c.size<=4294967280:=by simpa using Nat.le_of_ble_eq_true i
  exact(h s c w (by omega) (by omega) (BB k) (BB n)).mono λe w' ⟨m,l⟩=>⟨_,m,λι=>by simp[VR],l⟩
def pS(r:Int):Int:=cond (decide (48<=r)&&decide (r<=57)) 100 r
def CU(l:aa):Bool:=Nat.ble l.length 1000000
def zQ(l:aa):aa:=Lib.mapD pS l
def Le(f:Nat):Ent:=⟨f,λ_ args _ _ k=>match args with
 | [.s l]=>cond (CU l) (k { val:=.s (zQ l) }) none
 | _=>none⟩
def MN{f:Nat}(a:lC P f)(h:∀(s:ByteArray) (w:World),s.size<=1000000->GL gX w->
  Calls P f #[.string s] w λe w'=>e=.returned (.string ⟨(zQ s.data.toList).toArray⟩)/\Below w.heap.size w w'):fQ P (Le f):=by
 intro α args H fr k z b;simp only[Le]at b;split at b
 case h_2=>cases b
 rename_i l;obtain⟨c,n⟩:=ei b;refine⟨_,n,λo _=>.inl ⟨a,gC λι nb w g p j hx=>?_⟩⟩;simp only[VRs,VR]at hx;obtain⟨_,_,d,rfl,rfl⟩:=hx;have:g=#[.string ⟨l.toArray⟩]:=by apply lU;simpa using d
 subst this;have c:l.length<=1000000:=by unfold CU at c;exact aM c
 exact(h ⟨l.toArray⟩ w (by show l.toArray.size<=_;simpa using c) j).mono λe w' ⟨i,m⟩=>⟨_,i,by simp[VR],m⟩
end Go.Abs
