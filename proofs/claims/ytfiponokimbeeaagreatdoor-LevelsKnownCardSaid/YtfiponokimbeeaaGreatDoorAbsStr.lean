
/- Functions of two texts that are met by a contract of the kit's shelf: TrimRight, ContainsAny.
   Conditions: none; generic over the program. -/
import Derived.Test.YtfiponokimbeeaaGreatDoorAbsT
import Derived.Shelf.Strings.SlTrimAscii
import Derived.Shelf.Strings.IndexAnyAll
import Derived.Lib.MapU
set_option linter.unusedSimpArgs false
set_option linter.unusedVariables false
namespace Go.Abs
open Go.RowKit
variable {P:Program}
def JD (l:aa):Bool:=l.all λb=>Nat.blt b.toNat 128
theorem zL {l:aa} (h:JD l=true):∀(j:Nat) b,l[j]?=some b->b.toNat<128:=
 λ_ b a=>aE ((co.1 h) b (f7 a))
def LE (f:Nat) (ok:aa->aa->Bool) (g:aa->aa->V):Ent:=⟨f,λ_ args _ _ k=>match args with
 | [.s l,.s c]=>cond (ok l c) (k { val:=g l c }) none
 | _=>none⟩
theorem GF {f:Nat} {ok:aa->aa->Bool} {g:aa->aa->V} (a:jE P f)
  (h:∀(s c:ByteArray) (w:World),ok s.data.toList c.data.toList=true->Calls P f #[.string s,.string c] w λe w'=>∃x,e=.returned x/\(∀ι,VR ι (g s.data.toList c.data.toList) x)/\Below w.heap.size w w'):fp P (LE f ok g):=by
 intro α args H fr k z b;simp only [LE] at b;split at b
 case h_2=>cases b
 rename_i l c;obtain ⟨j,o⟩:=dG b;refine ⟨_,o,λq _=>.inl ⟨a,fA λι nb w m r _ hx=>?_⟩⟩;simp only [VRs,VR] at hx;obtain ⟨_,_,d,rfl,_,_,rfl,rfl,rfl⟩:=hx;have:m=#[.string ⟨l.toArray⟩,.string ⟨c.toArray⟩]:=by apply jQ;simpa using d
 subst this;refine (h ⟨l.toArray⟩ ⟨c.toArray⟩ w (by simpa using j)).mono λe w' ⟨x,n,p,i⟩=>⟨x,n,by simpa using p ι,i⟩
def wy (l c:aa):Bool:=Nat.ble l.length 9223372036854775807&&(Nat.ble c.length 4294967280&&JD c)
def wU (l c:aa):Bool:=Nat.ble l.length 4294967280&&(Nat.ble c.length 4294967280&&(JD l&&JD c))
def Oo (f:Nat):Ent:=LE f wy λl c=>.s (Lib.trimRightS l c)
def OC (f:Nat):Ent:=LE f wU λl c=>.b (Lib.containsAny l c)
theorem I1 {f:Nat} (hent:jE P f) (h:∀(s c:ByteArray) (w:World) (_:s.size<=9223372036854775807) (_:c.size<4294967281) (_:∀(j:Nat) b,c.data.toList[j]?=some b->b.toNat<128),
    Calls P f #[.string s,.string c] w λe w'=>e=.returned (.string ⟨(Lib.trimRightS s.data.toList c.data.toList).toArray⟩)/\Below w.heap.size w w'):fp P (Oo f):=
  GF hent λs c w hk=>by
    simp only [wy,az] at hk;obtain ⟨h1,h2,h3⟩:=hk;have h1:=aE h1;have h2:=aE h2
    exact (h s c w (by simpa using h1) (by have:c.size<=4294967280:=by simpa using h2
                                           omega) (zL h3)).mono λe w' ⟨q1,q2⟩=>⟨_,q1,λι=>by simp [VR],q2⟩
theorem I3 {f:Nat} (a:jE P f) (h:∀(s c:ByteArray) (w:World) (_:s.size<4294967281) (_:c.size<4294967281) (_:∀(j:Nat) b,s.data.toList[j]?=some b->b.toNat<128) (_:∀(j:Nat) b,c.data.toList[j]?=some b->b.toNat<128),
  Calls P f #[.string s,.string c] w λe w'=>e=.returned (.bool (Lib.containsAny s.data.toList c.data.toList))/\Below w.heap.size w w'):fp P (OC f):=
 GF a λs c w i=>by
  simp only [wU,az] at i;obtain ⟨d,g,m,k⟩:=i;have d:s.size<=4294967280:=by simpa using Nat.le_of_ble_eq_true d
  have g:c.size<=4294967280:=by simpa using Nat.le_of_ble_eq_true g
  exact (h s c w (by omega) (by omega) (zL m) (zL k)).mono λe w' ⟨l,n⟩=>⟨_,l,λι=>by simp [VR],n⟩
def ou (r:Int):Int:=cond (decide (48<=r)&&decide (r<=57)) 100 r
def Ac (l:aa):Bool:=Nat.ble l.length 1000000
def yH (l:aa):aa:=Lib.mapD ou l
def JR (f:Nat):Ent:=⟨f,λ_ args _ _ k=>match args with
 | [.s l]=>cond (Ac l) (k { val:=.s (yH l) }) none
 | _=>none⟩
theorem Kw {f:Nat} (a:jE P f) (h:∀(s:ByteArray) (w:World),s.size<=1000000->GL gf w->
  Calls P f #[.string s] w λe w'=>e=.returned (.string ⟨(yH s.data.toList).toArray⟩)/\Below w.heap.size w w'):fp P (JR f):=by
 intro α args H fr k z c;simp only [JR] at c;split at c
 case h_2=>cases c
 rename_i l;obtain ⟨b,m⟩:=dG c;refine ⟨_,m,λo _=>.inl ⟨a,fA λι nb w g p j hx=>?_⟩⟩;simp only [VRs,VR] at hx;obtain ⟨_,_,d,rfl,rfl⟩:=hx;have:g=#[.string ⟨l.toArray⟩]:=by apply jQ;simpa using d
 subst this;have b:l.length<=1000000:=by unfold Ac at b;exact aE b
 exact (h ⟨l.toArray⟩ w (by show l.toArray.size<=_;simpa using b) j).mono λe w' ⟨i,n⟩=>⟨_,i,by simp [VR],n⟩
end Go.Abs
