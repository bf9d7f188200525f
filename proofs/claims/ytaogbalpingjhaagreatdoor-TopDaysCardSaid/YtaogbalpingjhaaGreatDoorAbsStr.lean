
/- Functions of two texts that are met by a contract of the kit's shelf: TrimRight, ContainsAny.
   Conditions: none; generic over the program. -/
import Derived.Test.YtaogbalpingjhaaGreatDoorAbsT
import Derived.Shelf.Strings.SlTrimAscii
import Derived.Shelf.Strings.IndexAnyAll
import Derived.Lib.MapU
set_option linter.unusedSimpArgs false
set_option linter.unusedVariables false
namespace Go.Abs
open Go.RowKit
variable {P:Program}
def Ec (l:aa):Bool:=l.all λb=>Nat.blt b.toNat 128
theorem tJ {l:aa} (h:Ec l=true):∀(j:Nat) b,l[j]?=some b->b.toNat<128:=
 λ_ b a=>ax ((bz.1 h) b (gD a))
def E6 (f:Nat) (ok:aa->aa->Bool) (g:aa->aa->V):Ent:=⟨f,λ_ args _ _ k=>match args with
 | [.s l,.s c]=>cond (ok l c) (k { val:=g l c }) none
 | _=>none⟩
theorem xF {f:Nat} {ok:aa->aa->Bool} {g:aa->aa->V} (a:gx P f)
  (h:∀(s c:ByteArray) (w:World),ok s.data.toList c.data.toList=true->Calls P f #[.string s,.string c] w λe w'=>∃x,e=.returned x/\(∀ι,VR ι (g s.data.toList c.data.toList) x)/\Below w.heap.size w w'):cD P (E6 f ok g):=by
 intro α args H fr k z b;simp only [E6] at b;split at b
 case h_2=>cases b
 rename_i l c;obtain ⟨n,o⟩:=ca b;refine ⟨_,o,λt _=>.inl ⟨a,di λι nb w j r _ d=>?_⟩⟩;simp only [VRs,VR] at d;obtain ⟨_,_,q,rfl,_,_,rfl,rfl,rfl⟩:=d;have:j=#[.string ⟨l.toArray⟩,.string ⟨c.toArray⟩]:=by apply gz;simpa using q
 subst this;refine (h ⟨l.toArray⟩ ⟨c.toArray⟩ w (by simpa using n)).mono λe w' ⟨x,p,i,m⟩=>⟨x,p,by simpa using i ι,m⟩
def xq (l c:aa):Bool:=Nat.ble l.length 9223372036854775807&&(Nat.ble c.length 4294967280&&Ec c)
def wo (l c:aa):Bool:=Nat.ble l.length 4294967280&&(Nat.ble c.length 4294967280&&(Ec l&&Ec c))
def Gg (f:Nat):Ent:=E6 f xq λl c=>.s (Lib.trimRightS l c)
def Gz (f:Nat):Ent:=E6 f wo λl c=>.b (Lib.containsAny l c)
theorem BE {f:Nat} (hent:gx P f) (h:∀(s c:ByteArray) (w:World) (_:s.size<=9223372036854775807) (_:c.size<4294967281) (_:∀(j:Nat) b,c.data.toList[j]?=some b->b.toNat<128),
    Calls P f #[.string s,.string c] w λe w'=>e=.returned (.string ⟨(Lib.trimRightS s.data.toList c.data.toList).toArray⟩)/\Below w.heap.size w w'):cD P (Gg f):=
  xF hent λs c w hk=>by
    simp only [xq,av] at hk;obtain ⟨h1,h2,h3⟩:=hk;have h1:=ax h1;have h2:=ax h2
    exact (h s c w (by simpa using h1) (by have:c.size<=4294967280:=by simpa using h2
                                           omega) (tJ h3)).mono λe w' ⟨q1,q2⟩=>⟨_,q1,λι=>by simp [VR],q2⟩
theorem Di {f:Nat} (a:gx P f) (h:∀(s c:ByteArray) (w:World) (_:s.size<4294967281) (_:c.size<4294967281) (_:∀(j:Nat) b,s.data.toList[j]?=some b->b.toNat<128) (_:∀(j:Nat) b,c.data.toList[j]?=some b->b.toNat<128),
  Calls P f #[.string s,.string c] w λe w'=>e=.returned (.bool (Lib.containsAny s.data.toList c.data.toList))/\Below w.heap.size w w'):cD P (Gz f):=
 xF a λs c w g=>by
  simp only [wo,av] at g;obtain ⟨d,i,l,m⟩:=g;have d:s.size<=4294967280:=by simpa using Nat.le_of_ble_eq_true d
  have i:c.size<=4294967280:=by simpa using Nat.le_of_ble_eq_true i
  exact (h s c w (by omega) (by omega) (tJ l) (tJ m)).mono λe w' ⟨n,k⟩=>⟨_,n,λι=>by simp [VR],k⟩
def pm (r:Int):Int:=cond (decide (48<=r)&&decide (r<=57)) 100 r
def wz (l:aa):Bool:=Nat.ble l.length 1000000
def vK (l:aa):aa:=Lib.mapD pm l
def B0 (f:Nat):Ent:=⟨f,λ_ args _ _ k=>match args with
 | [.s l]=>cond (wz l) (k { val:=.s (vK l) }) none
 | _=>none⟩
theorem CB {f:Nat} (a:gx P f) (h:∀(s:ByteArray) (w:World),s.size<=1000000->GL dH w->
  Calls P f #[.string s] w λe w'=>e=.returned (.string ⟨(vK s.data.toList).toArray⟩)/\Below w.heap.size w w'):cD P (B0 f):=by
 intro α args H fr k z c;simp only [B0] at c;split at c
 case h_2=>cases c
 rename_i l;obtain ⟨b,m⟩:=ca c;refine ⟨_,m,λq _=>.inl ⟨a,di λι nb w i p j d=>?_⟩⟩;simp only [VRs,VR] at d;obtain ⟨_,_,n,rfl,rfl⟩:=d;have:i=#[.string ⟨l.toArray⟩]:=by apply gz;simpa using n
 subst this;have b:l.length<=1000000:=by unfold wz at b;exact ax b
 exact (h ⟨l.toArray⟩ w (by show l.toArray.size<=_;simpa using b) j).mono λe w' ⟨o,g⟩=>⟨_,o,by simp [VR],g⟩
end Go.Abs
