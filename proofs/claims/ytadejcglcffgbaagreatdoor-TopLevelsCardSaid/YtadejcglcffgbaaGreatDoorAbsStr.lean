
import Derived.Test.YtadejcglcffgbaaGreatDoorAbsT
import Derived.Shelf.Strings.SlTrimAscii
import Derived.Shelf.Strings.IndexAnyAll
import Derived.Lib.MapU
set_option linter.unusedSimpArgs false
set_option linter.unusedVariables false
set_option linter.defProp false
namespace Go.Abs
open Go.RowKit
variable {P:Program}
def Oi(l:aa):Bool:=l.all λb=>Nat.blt b.toNat 128
def Bq{l:aa}(h:Oi l=true):∀(j:Nat) b,l[j]?=some b->b.toNat<128:=
 λ_ b a=>aI ((bS.1 h) b (fk a))
def Ru(f:Nat)(ok:aa->aa->Bool)(g:aa->aa->V):Ent:=⟨f,λ_ args _ _ k=>match args with
 | [.s l,.s c]=>cond (ok l c) (k { val:=g l c }) none
 | _=>none⟩
def HE{f:Nat}{ok:aa->aa->Bool}{g:aa->aa->V}(a:lB P f)
  (h:∀(s c:ByteArray) (w:World),ok s.data.toList c.data.toList=true->Calls P f #[.string s,.string c] w λe w'=>∃x,e=.returned x/\(∀ι,VR ι (g s.data.toList c.data.toList) x)/\Below w.heap.size w w'):fC P (Ru f ok g):=by
 intro α args H fr k z b;simp only[Ru]at b;split at b
 case h_2=>cases b
 rename_i l c;obtain⟨n,d⟩:=dU b;refine⟨_,d,λr _=>.inl ⟨a,gu λι nb w j q _ hx=>?_⟩⟩;simp only[VRs,VR]at hx;obtain⟨_,_,m,rfl,_,_,rfl,rfl,rfl⟩:=hx;have:j=#[.string ⟨l.toArray⟩,.string ⟨c.toArray⟩]:=by apply lq;simpa using m
 subst this;refine(h ⟨l.toArray⟩ ⟨c.toArray⟩ w (by simpa using n)).mono λe w' ⟨x,p,o,i⟩=>⟨x,p,by simpa using o ι,i⟩
def yD(l c:aa):Bool:=Nat.ble l.length 9223372036854775807&&(Nat.ble c.length 4294967280&&Oi c)
def yE(l c:aa):Bool:=Nat.ble l.length 4294967280&&(Nat.ble c.length 4294967280&&(Oi l&&Oi c))
def SA(f:Nat):Ent:=Ru f yD λl c=>.s (Lib.trimRightS l c)
def SU(f:Nat):Ent:=Ru f yE λl c=>.b (Lib.containsAny l c)
def OW {f:Nat} (hent:lB P f) (h:∀(s c:ByteArray) (w:World) (_:s.size<=9223372036854775807) (_:c.size<4294967281) (_:∀(j:Nat) b,c.data.toList[j]?=some b->b.toNat<128),
    Calls P f #[.string s,.string c] w λe w'=>e=.returned (.string ⟨(Lib.trimRightS s.data.toList c.data.toList).toArray⟩)/\Below w.heap.size w w'):fC P (SA f):=
  HE hent λs c w hk=>by
    simp only [yD,aB] at hk;obtain ⟨h1,h2,h3⟩:=hk;have h1:=aI h1;have h2:=aI h2
    exact (h s c w (by simpa using h1) (by have:c.size<=4294967280:=by simpa using h2
                                           omega) (Bq h3)).mono λe w' ⟨q1,q2⟩=>⟨_,q1,λι=>by simp [VR],q2⟩
def OX{f:Nat}(a:lB P f)(h:∀(s c:ByteArray) (w:World) (_:s.size<4294967281) (_:c.size<4294967281) (_:∀(j:Nat) b,s.data.toList[j]?=some b->b.toNat<128) (_:∀(j:Nat) b,c.data.toList[j]?=some b->b.toNat<128),
  Calls P f #[.string s,.string c] w λe w'=>e=.returned (.bool (Lib.containsAny s.data.toList c.data.toList))/\Below w.heap.size w w'):fC P (SU f):=
 HE a λs c w i=>by
  simp only[yE,aB]at i;obtain⟨g,d,n,m⟩:=i;have g:s.size<=4294967280:=by simpa using Nat.le_of_ble_eq_true g
  have d:c.size<=4294967280:=by simpa using Nat.le_of_ble_eq_true d
  exact(h s c w (by omega) (by omega) (Bq n) (Bq m)).mono λe w' ⟨l,k⟩=>⟨_,l,λι=>by simp[VR],k⟩
def pG(r:Int):Int:=cond (decide (48<=r)&&decide (r<=57)) 100 r
def By(l:aa):Bool:=Nat.ble l.length 1000000
def zD(l:aa):aa:=Lib.mapD pG l
def Nu(f:Nat):Ent:=⟨f,λ_ args _ _ k=>match args with
 | [.s l]=>cond (By l) (k { val:=.s (zD l) }) none
 | _=>none⟩
def Pj{f:Nat}(a:lB P f)(h:∀(s:ByteArray) (w:World),s.size<=1000000->GL gQ w->
  Calls P f #[.string s] w λe w'=>e=.returned (.string ⟨(zD s.data.toList).toArray⟩)/\Below w.heap.size w w'):fC P (Nu f):=by
 intro α args H fr k z c;simp only[Nu]at c;split at c
 case h_2=>cases c
 rename_i l;obtain⟨b,d⟩:=dU c;refine⟨_,d,λp _=>.inl ⟨a,gu λι nb w g o n hx=>?_⟩⟩;simp only[VRs,VR]at hx;obtain⟨_,_,i,rfl,rfl⟩:=hx;have:g=#[.string ⟨l.toArray⟩]:=by apply lq;simpa using i
 subst this;have b:l.length<=1000000:=by unfold By at b;exact aI b
 exact(h ⟨l.toArray⟩ w (by show l.toArray.size<=_;simpa using b) n).mono λe w' ⟨m,j⟩=>⟨_,m,by simp[VR],j⟩
end Go.Abs
