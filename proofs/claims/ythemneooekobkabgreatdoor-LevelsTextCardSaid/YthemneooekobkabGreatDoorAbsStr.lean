
/- Functions of two texts that are met by a contract of the kit's shelf: TrimRight, ContainsAny.
   Conditions: none; generic over the program. -/
import Derived.Test.YthemneooekobkabGreatDoorAbsT
import Derived.Shelf.Strings.SlTrimAscii
import Derived.Shelf.Strings.IndexAnyAll
import Derived.Lib.MapU
set_option linter.unusedSimpArgs false
set_option linter.unusedVariables false
namespace Go.Abs
open Go.RowKit
variable {P:Program}
def J7 (l:aa):Bool:=l.all λb=>Nat.blt b.toNat 128
theorem BO {l:aa} (h:J7 l=true):∀(j:Nat) b,l[j]?=some b->b.toNat<128:=
 λ_ b a=>aJ ((cK.1 h) b (gM a))
def P9 (f:Nat) (ok:aa->aa->Bool) (g:aa->aa->V):Ent:=⟨f,λ_ args _ _ k=>match args with
 | [.s l,.s c]=>cond (ok l c) (k { val:=g l c }) none
 | _=>none⟩
theorem G1 {f:Nat} {ok:aa->aa->Bool} {g:aa->aa->V} (a:k9 P f)
  (h:∀(s c:ByteArray) (w:World),ok s.data.toList c.data.toList=true->Calls P f #[.string s,.string c] w λe w'=>∃x,e=.returned x/\(∀ι,VR ι (g s.data.toList c.data.toList) x)/\Below w.heap.size w w'):f9 P (P9 f ok g):=by
 intro α args H fr k z b;simp only [P9] at b;split at b
 case h_2=>cases b
 rename_i l c;obtain ⟨d,m⟩:=dY b;refine ⟨_,m,λr _=>.inl ⟨a,gu λι nb w n q _ hx=>?_⟩⟩;simp only [VRs,VR] at hx;obtain ⟨_,_,i,rfl,_,_,rfl,rfl,rfl⟩:=hx;have:n=#[.string ⟨l.toArray⟩,.string ⟨c.toArray⟩]:=by apply lG;simpa using i
 subst this;refine (h ⟨l.toArray⟩ ⟨c.toArray⟩ w (by simpa using d)).mono λe w' ⟨x,o,p,j⟩=>⟨x,o,by simpa using p ι,j⟩
def xC (l c:aa):Bool:=Nat.ble l.length 9223372036854775807&&(Nat.ble c.length 4294967280&&J7 c)
def yf (l c:aa):Bool:=Nat.ble l.length 4294967280&&(Nat.ble c.length 4294967280&&(J7 l&&J7 c))
def QY (f:Nat):Ent:=P9 f xC λl c=>.s (Lib.trimRightS l c)
def Rl (f:Nat):Ent:=P9 f yf λl c=>.b (Lib.containsAny l c)
theorem Lr {f:Nat} (hent:k9 P f) (h:∀(s c:ByteArray) (w:World) (_:s.size<=9223372036854775807) (_:c.size<4294967281) (_:∀(j:Nat) b,c.data.toList[j]?=some b->b.toNat<128),
    Calls P f #[.string s,.string c] w λe w'=>e=.returned (.string ⟨(Lib.trimRightS s.data.toList c.data.toList).toArray⟩)/\Below w.heap.size w w'):f9 P (QY f):=
  G1 hent λs c w hk=>by
    simp only [xC,aA] at hk;obtain ⟨h1,h2,h3⟩:=hk;have h1:=aJ h1;have h2:=aJ h2
    exact (h s c w (by simpa using h1) (by have:c.size<=4294967280:=by simpa using h2
                                           omega) (BO h3)).mono λe w' ⟨q1,q2⟩=>⟨_,q1,λι=>by simp [VR],q2⟩
theorem Lt {f:Nat} (a:k9 P f) (h:∀(s c:ByteArray) (w:World) (_:s.size<4294967281) (_:c.size<4294967281) (_:∀(j:Nat) b,s.data.toList[j]?=some b->b.toNat<128) (_:∀(j:Nat) b,c.data.toList[j]?=some b->b.toNat<128),
  Calls P f #[.string s,.string c] w λe w'=>e=.returned (.bool (Lib.containsAny s.data.toList c.data.toList))/\Below w.heap.size w w'):f9 P (Rl f):=
 G1 a λs c w g=>by
  simp only [yf,aA] at g;obtain ⟨d,i,k,l⟩:=g;have d:s.size<=4294967280:=by simpa using Nat.le_of_ble_eq_true d
  have i:c.size<=4294967280:=by simpa using Nat.le_of_ble_eq_true i
  exact (h s c w (by omega) (by omega) (BO k) (BO l)).mono λe w' ⟨m,n⟩=>⟨_,m,λι=>by simp [VR],n⟩
def o8 (r:Int):Int:=cond (decide (48<=r)&&decide (r<=57)) 100 r
def A6 (l:aa):Bool:=Nat.ble l.length 1000000
def zf (l:aa):aa:=Lib.mapD o8 l
def M5 (f:Nat):Ent:=⟨f,λ_ args _ _ k=>match args with
 | [.s l]=>cond (A6 l) (k { val:=.s (zf l) }) none
 | _=>none⟩
theorem KA {f:Nat} (a:k9 P f) (h:∀(s:ByteArray) (w:World),s.size<=1000000->GL ie w->
  Calls P f #[.string s] w λe w'=>e=.returned (.string ⟨(zf s.data.toList).toArray⟩)/\Below w.heap.size w w'):f9 P (M5 f):=by
 intro α args H fr k z c;simp only [M5] at c;split at c
 case h_2=>cases c
 rename_i l;obtain ⟨b,g⟩:=dY c;refine ⟨_,g,λp _=>.inl ⟨a,gu λι nb w j o i hx=>?_⟩⟩;simp only [VRs,VR] at hx;obtain ⟨_,_,d,rfl,rfl⟩:=hx;have:j=#[.string ⟨l.toArray⟩]:=by apply lG;simpa using d
 subst this;have b:l.length<=1000000:=by unfold A6 at b;exact aJ b
 exact (h ⟨l.toArray⟩ w (by show l.toArray.size<=_;simpa using b) i).mono λe w' ⟨m,n⟩=>⟨_,m,by simp [VR],n⟩
end Go.Abs
