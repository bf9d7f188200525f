
import Derived.Test.YtadejcglcffgbacGreatDoorAbsT
import Derived.Shelf.Strings.SlTrimAscii
import Derived.Shelf.Strings.IndexAnyAll
import Derived.Lib.MapU
set_option linter.unusedSimpArgs false
set_option linter.unusedVariables false
set_option linter.defProp false
namespace Go.Abs
open Go.RowKit
variable {P:Program}
def HO(l:aa):Bool:=l.all λb=>Nat.blt b.toNat 128
def vK{l:aa}(h:HO l=true):∀(j:Nat) b,l[j]?=some b->b.toNat<128:=
 λ_ b a=>az ((ct.1 h) b (dK a))
def GZ(f:Nat)(ok:aa->aa->Bool)(g:aa->aa->V):Ent:=⟨f,λ_ args _ _ k=>match args with
 | [.s l,.s c]=>cond (ok l c) (k { val:=g l c }) none
 | _=>none⟩
def BH{f:Nat}{ok:aa->aa->Bool}{g:aa->aa->V}(a:gj P f)
  (h:∀(s c:ByteArray) (w:World),ok s.data.toList c.data.toList=true->Calls P f #[.string s,.string c] w λe w'=>∃x,e=.returned x/\(∀ι,VR ι (g s.data.toList c.data.toList) x)/\Below w.heap.size w w'):cN P (GZ f ok g):=by
 intro α args H fr k z b;simp only[GZ]at b;split at b
 case h_2=>cases b
 rename_i l c;obtain⟨h1,h2⟩:=bR b;refine⟨_,h2,λq _=>.inl ⟨a,cK λι nb w m p _ d=>?_⟩⟩;simp only[VRs,VR]at d;obtain⟨_,_,j,rfl,_,_,rfl,rfl,rfl⟩:=d;have:m=#[.string ⟨l.toArray⟩,.string ⟨c.toArray⟩]:=by apply gQ;simpa using j
 subst this;refine(h ⟨l.toArray⟩ ⟨c.toArray⟩ w (by simpa using h1)).mono λe w' ⟨x,o,n,i⟩=>⟨x,o,by simpa using n ι,i⟩
def zp(l c:aa):Bool:=Nat.ble l.length 9223372036854775807&&(Nat.ble c.length 4294967280&&HO c)
def zb(l c:aa):Bool:=Nat.ble l.length 4294967280&&(Nat.ble c.length 4294967280&&(HO l&&HO c))
def I7(f:Nat):Ent:=GZ f zp λl c=>.s (Lib.trimRightS l c)
def IV(f:Nat):Ent:=GZ f zb λl c=>.b (Lib.containsAny l c)
def E4 {f:Nat} (hent:gj P f) (h:∀(s c:ByteArray) (w:World) (_:s.size<=9223372036854775807) (_:c.size<4294967281) (_:∀(j:Nat) b,c.data.toList[j]?=some b->b.toNat<128),
    Calls P f #[.string s,.string c] w λe w'=>e=.returned (.string ⟨(Lib.trimRightS s.data.toList c.data.toList).toArray⟩)/\Below w.heap.size w w'):cN P (I7 f):=
  BH hent λs c w hk=>by
    simp only [zp,aw] at hk;obtain ⟨h1,h2,h3⟩:=hk;have h1:=az h1;have h2:=az h2
    exact (h s c w (by simpa using h1) (by have:c.size<=4294967280:=by simpa using h2
                                           omega) (vK h3)).mono λe w' ⟨q1,q2⟩=>⟨_,q1,λι=>by simp [VR],q2⟩
def FN{f:Nat}(a:gj P f)(h:∀(s c:ByteArray) (w:World) (_:s.size<4294967281) (_:c.size<4294967281) (_:∀(j:Nat) b,s.data.toList[j]?=some b->b.toNat<128) (_:∀(j:Nat) b,c.data.toList[j]?=some b->b.toNat<128),
  Calls P f #[.string s,.string c] w λe w'=>e=.returned (.bool (Lib.containsAny s.data.toList c.data.toList))/\Below w.heap.size w w'):cN P (IV f):=
 BH a λs c w d=>by
  simp only[zb,aw]at d;obtain⟨h1,h2,l,i⟩:=d;have h1:s.size<=4294967280:=by simpa using Nat.le_of_ble_eq_true h1
  have h2:c.size<=4294967280:=by simpa using Nat.le_of_ble_eq_true h2
  exact(h s c w (by omega) (by omega) (vK l) (vK i)).mono λe w' ⟨k,g⟩=>⟨_,k,λι=>by simp[VR],g⟩
def qS(r:Int):Int:=cond (decide (48<=r)&&decide (r<=57)) 100 r
def zw(l:aa):Bool:=Nat.ble l.length 1000000
def xx(l:aa):aa:=Lib.mapD qS l
def CW(f:Nat):Ent:=⟨f,λ_ args _ _ k=>match args with
 | [.s l]=>cond (zw l) (k { val:=.s (xx l) }) none
 | _=>none⟩
def EA{f:Nat}(a:gj P f)(h:∀(s:ByteArray) (w:World),s.size<=1000000->GL dY w->
  Calls P f #[.string s] w λe w'=>e=.returned (.string ⟨(xx s.data.toList).toArray⟩)/\Below w.heap.size w w'):cN P (CW f):=by
 intro α args H fr k z b;simp only[CW]at b;split at b
 case h_2=>cases b
 rename_i l;obtain⟨h1,h2⟩:=bR b;refine⟨_,h2,λo _=>.inl ⟨a,cK λι nb w g n i c=>?_⟩⟩;simp only[VRs,VR]at c;obtain⟨_,_,d,rfl,rfl⟩:=c;have:g=#[.string ⟨l.toArray⟩]:=by apply gQ;simpa using d
 subst this;have h1:l.length<=1000000:=by unfold zw at h1;exact az h1
 exact(h ⟨l.toArray⟩ w (by show l.toArray.size<=_;simpa using h1) i).mono λe w' ⟨m,j⟩=>⟨_,m,by simp[VR],j⟩
end Go.Abs
