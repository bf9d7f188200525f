
/- Functions of two texts that are met by a contract of the kit's shelf: TrimRight, ContainsAny.
   Conditions: none; generic over the program. -/
import Derived.Test.YthemneooekobkabGreatDoorAbsT
import Derived.Shelf.Strings.SlTrimAscii
import Derived.Shelf.Strings.IndexAnyAll
import Derived.Lib.MapU
set_option linter.unusedSimpArgs false
set_option linter.unusedVariables false
namespace Go.Abs
open Go.RowKit
variable {P:Program}
def MJ (l:aa):Bool:=l.all λb=>Nat.blt b.toNat 128
theorem BK {l:aa} (h:MJ l=true):∀(j:Nat) b,l[j]?=some b->b.toNat<128:=
 λ_ b a=>aL ((cv.1 h) b (fS a))
def Qo (f:Nat) (ok:aa->aa->Bool) (g:aa->aa->V):Ent:=⟨f,λ_ args _ _ k=>match args with
 | [.s l,.s c]=>cond (ok l c) (k { val:=g l c }) none
 | _=>none⟩
theorem Hl {f:Nat} {ok:aa->aa->Bool} {g:aa->aa->V} (a:kM P f)
  (h:∀(s c:ByteArray) (w:World),ok s.data.toList c.data.toList=true->Calls P f #[.string s,.string c] w λe w'=>∃x,e=.returned x/\(∀ι,VR ι (g s.data.toList c.data.toList) x)/\Below w.heap.size w w'):fW P (Qo f ok g):=by
 intro α args H fr k z b;simp only [Qo] at b;split at b
 case h_2=>cases b
 rename_i l c;obtain ⟨o,m⟩:=dZ b;refine ⟨_,m,λr _=>.inl ⟨a,ge λι nb w j q _ hx=>?_⟩⟩;simp only [VRs,VR] at hx;obtain ⟨_,_,n,rfl,_,_,rfl,rfl,rfl⟩:=hx;have:j=#[.string ⟨l.toArray⟩,.string ⟨c.toArray⟩]:=by apply lh;simpa using n
 subst this;refine (h ⟨l.toArray⟩ ⟨c.toArray⟩ w (by simpa using o)).mono λe w' ⟨x,p,i,d⟩=>⟨x,p,by simpa using i ι,d⟩
def wQ (l c:aa):Bool:=Nat.ble l.length 9223372036854775807&&(Nat.ble c.length 4294967280&&MJ c)
def xg (l c:aa):Bool:=Nat.ble l.length 4294967280&&(Nat.ble c.length 4294967280&&(MJ l&&MJ c))
def Ry (f:Nat):Ent:=Qo f wQ λl c=>.s (Lib.trimRightS l c)
def QV (f:Nat):Ent:=Qo f xg λl c=>.b (Lib.containsAny l c)
theorem Nu {f:Nat} (hent:kM P f) (h:∀(s c:ByteArray) (w:World) (_:s.size<=9223372036854775807) (_:c.size<4294967281) (_:∀(j:Nat) b,c.data.toList[j]?=some b->b.toNat<128),
    Calls P f #[.string s,.string c] w λe w'=>e=.returned (.string ⟨(Lib.trimRightS s.data.toList c.data.toList).toArray⟩)/\Below w.heap.size w w'):fW P (Ry f):=
  Hl hent λs c w hk=>by
    simp only [wQ,aA] at hk;obtain ⟨h1,h2,h3⟩:=hk;have h1:=aL h1;have h2:=aL h2
    exact (h s c w (by simpa using h1) (by have:c.size<=4294967280:=by simpa using h2
                                           omega) (BK h3)).mono λe w' ⟨q1,q2⟩=>⟨_,q1,λι=>by simp [VR],q2⟩
theorem Nq {f:Nat} (a:kM P f) (h:∀(s c:ByteArray) (w:World) (_:s.size<4294967281) (_:c.size<4294967281) (_:∀(j:Nat) b,s.data.toList[j]?=some b->b.toNat<128) (_:∀(j:Nat) b,c.data.toList[j]?=some b->b.toNat<128),
  Calls P f #[.string s,.string c] w λe w'=>e=.returned (.bool (Lib.containsAny s.data.toList c.data.toList))/\Below w.heap.size w w'):fW P (QV f):=
 Hl a λs c w i=>by
  simp only [xg,aA] at i;obtain ⟨g,d,l,m⟩:=i;have g:s.size<=4294967280:=by simpa using Nat.le_of_ble_eq_true g
  have d:c.size<=4294967280:=by simpa using Nat.le_of_ble_eq_true d
  exact (h s c w (by omega) (by omega) (BK l) (BK m)).mono λe w' ⟨n,k⟩=>⟨_,n,λι=>by simp [VR],k⟩
def pw (r:Int):Int:=cond (decide (48<=r)&&decide (r<=57)) 100 r
def BQ (l:aa):Bool:=Nat.ble l.length 1000000
def zE (l:aa):aa:=Lib.mapD pw l
def Lo (f:Nat):Ent:=⟨f,λ_ args _ _ k=>match args with
 | [.s l]=>cond (BQ l) (k { val:=.s (zE l) }) none
 | _=>none⟩
theorem KL {f:Nat} (a:kM P f) (h:∀(s:ByteArray) (w:World),s.size<=1000000->GL gY w->
  Calls P f #[.string s] w λe w'=>e=.returned (.string ⟨(zE s.data.toList).toArray⟩)/\Below w.heap.size w w'):fW P (Lo f):=by
 intro α args H fr k z c;simp only [Lo] at c;split at c
 case h_2=>cases c
 rename_i l;obtain ⟨b,i⟩:=dZ c;refine ⟨_,i,λp _=>.inl ⟨a,ge λι nb w g o j hx=>?_⟩⟩;simp only [VRs,VR] at hx;obtain ⟨_,_,m,rfl,rfl⟩:=hx;have:g=#[.string ⟨l.toArray⟩]:=by apply lh;simpa using m
 subst this;have b:l.length<=1000000:=by unfold BQ at b;exact aL b
 exact (h ⟨l.toArray⟩ w (by show l.toArray.size<=_;simpa using b) j).mono λe w' ⟨n,d⟩=>⟨_,n,by simp [VR],d⟩
end Go.Abs
